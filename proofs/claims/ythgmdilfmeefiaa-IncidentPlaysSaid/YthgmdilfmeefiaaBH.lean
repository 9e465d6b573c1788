/-
  Texts J41, J42 of this claim, one behind the other.
-/
import Derived.Test.YthgmdilfmeefiaaBG
namespace Go.Proofs.Ythgmdilfmeefiaa
set_option linter.all false
set_option linter.unusedSimpArgs false
set_option linter.unusedVariables false
open Go.RowKit

set_option maxRecDepth 100000 in
set_option maxHeartbeats 16000000 in
theorem join_call {w : World} {k : Nat} {s : BS} {m : Mem} (h : BookAt w k s m) (a b : Int) :
    Calls Try.prog 34 #[.pointer (some ⟨k, 0, none⟩), .int .i64 a, .int .i64 b] w fun e w' => e = .returned (.int .i64 (joinS s a b).2) ∧ ∃ m', BookAt w' k (joinS s a b).1 m' ∧ Turn k w w' s (joinS s a b).1 m m' := by
  have hf0 := Try.func34
  have c2 : w.cell? ⟨k, 2, none⟩ = some (.bool true) := h.blk.cell 2
  have hstay : ∀ w', Frm w.heap.size [] w w' → ∃ m', BookAt w' k s m' ∧ Turn k w w' s s m m' := fun w' hf => ⟨m, h.still hf, ⟨hf.narrow (by simp), fun b hb => .inl hb⟩⟩
  have hall : ∀ V i, Frm w.heap.size [] w V → Calls Try.prog 37 #[.pointer (some ⟨k, 0, none⟩), .int .i64 i] V fun e w' => ∃ v, e = .returned v ∧ Ints V w' v (ofL s i) ∧ Frm V.heap.size [] V w' := fun V i hV => all_any (h.still hV) i
  obtain ⟨la, hla⟩ : ∃ c, c = (ofL s a).length := ⟨_, rfl⟩
  obtain ⟨lb, hlb⟩ : ∃ c, c = (ofL s b).length := ⟨_, rfl⟩
  have hlk := h.blk.lt
  have C2 := Lib.hid c2
  have HST := Lib.hid hstay
  have HALL := Lib.hid hall
  have HLA := Lib.hid hla
  have HLB := Lib.hid hlb
  have HH := Lib.hid h
  have HLK := Lib.hid hlk
  clear hlk h hlb hla hall hstay c2
  go_enter Try.func34, Try.ntmps34
  go_wp2_with (go_at_call 35; refine (is_made _ k true C2.out).mono ?_; rintro e w' ⟨rfl, rfl⟩)
  refine (HALL.out w a (Frm.refl _ _ _)).mono ?_; rintro e w1 ⟨v, rfl, hin, hf⟩
  obtain ⟨aa, ac, rfl⟩ := hin.form
  rw [← HLA.out]
  clear hin
  have HF := Lib.hid hf
  clear hf
  by_cases h0 : la = 0
  · have hj : joinS s a b = (s, 7) := by unfold joinS; rw [if_pos (.inl (List.eq_nil_of_length_eq_zero (by rw [← HLA.out]; exact h0)))]
    subst h0
    have HJ := Lib.hid hj
    clear hj
    go_wp2_with fail
    go_ret
    rw [HJ.out]
    exact ⟨rfl, HST.out _ HF.out⟩
  have h0' : ((la : Int) == 0) = false := by simp; omega
  have h0b : ¬ (la : Int) = 0 := by omega
  have H0 := Lib.hid h0
  clear h0
  go_wp2_with fail
  refine (HALL.out w1 b HF.out).mono ?_; rintro e w2 ⟨v, rfl, hin, hf1⟩
  obtain ⟨ba, bc, rfl⟩ := hin.form
  rw [← HLB.out]
  have hf := HF.out.call hf1 HF.out.size (by simp)
  clear hin hf1 HF h0' h0b
  have HF := Lib.hid hf
  clear hf
  by_cases hb0 : lb = 0
  · have hj : joinS s a b = (s, 7) := by unfold joinS; rw [if_pos (.inr (List.eq_nil_of_length_eq_zero (by rw [← HLB.out]; exact hb0)))]
    subst hb0
    have HJ := Lib.hid hj
    clear hj
    go_wp2_with fail
    go_ret
    rw [HJ.out]
    exact ⟨rfl, HST.out _ HF.out⟩
  have h0' : ((lb : Int) == 0) = false := by simp; omega
  have h0b : ¬ (lb : Int) = 0 := by omega
  have hne : ¬ (ofL s a = [] ∨ ofL s b = []) := by
    rintro (e | e)
    · exact H0.out (by rw [HLA.out, e]; rfl)
    · exact hb0 (by rw [HLB.out, e]; rfl)
  have HB0 := Lib.hid hb0
  have HNE := Lib.hid hne
  clear hne hb0
  by_cases hab : a = b
  · have hj : joinS s a b = (s, 2) := by unfold joinS; rw [if_neg HNE.out, if_pos hab]
    subst hab
    have HJ := Lib.hid hj
    clear hj
    go_wp2_with fail
    go_ret
    rw [HJ.out]
    exact ⟨rfl, HST.out _ HF.out⟩
  have hab' : (a == b) = false := by simp [hab]
  obtain ⟨x, hx, hxl⟩ : ∃ x : Nat, a = (x : Int) ∧ x < s.opn.length := by
    have := of_range HH.out.inv (i := a) (fun e => HNE.out (.inl e))
    exact ⟨a.toNat, by omega, by omega⟩
  obtain ⟨y, hy, hyl⟩ : ∃ x : Nat, b = (x : Int) ∧ x < s.opn.length := by
    have := of_range HH.out.inv (i := b) (fun e => HNE.out (.inr e))
    exact ⟨b.toNat, by omega, by omega⟩
  have hj9 : otherB s a b = true → joinS s a b = (s, 9) := fun e => by unfold joinS; rw [if_neg HNE.out, if_neg hab, if_pos e]
  have hj0 : otherB s a b = false → joinS s a b = (joinedS s a b, 0) := fun e => by unfold joinS; rw [if_neg HNE.out, if_neg hab, if_neg (by rw [e]; simp)]
  have hinvJ := join_inv HH.out.inv a b
  obtain ⟨ea, eb, eo, ec, hve, hrw⟩ := HH.out.rwE
  obtain ⟨n, hn⟩ : ∃ n, n = s.reps.length := ⟨_, rfl⟩
  have hnm : n ≤ 500 := by rw [hn]; exact HH.out.inv.max.1
  have hn0 : 0 < n := by
    obtain ⟨j, hj⟩ := List.exists_mem_of_ne_nil _ (fun e => HNE.out (.inl e))
    have := (of_mem.1 hj).1
    omega
  have had := hrw.ad (by omega)
  subst had
  have c3w : w.cell? ⟨k, 3, none⟩ = some (.slice (some ⟨eb, eo, none⟩) n ec) := by rw [hn, ← hve]; exact HH.out.blk.cell 3
  have c3 : w2.cell? ⟨k, 3, none⟩ = some (.slice (some ⟨eb, eo, none⟩) n ec) := (HF.out.cell HLK.out (by simp)).trans c3w
  obtain ⟨en, hen⟩ : ∃ f : Nat → List Value, f = entAt s m := ⟨_, rfl⟩
  obtain ⟨rn, hrn⟩ : ∃ f : Nat → List Value, f = fun j => repC (s.rp j) (m.ad j) (m.wc j) := ⟨_, rfl⟩
  have he8 : ∀ j, (en j).length = 8 := fun j => by rw [hen]; rfl
  have he7 : ∀ j, (en j)[7]? = some (.int .i64 (s.o j : Int)) := fun j => by rw [hen]; rfl
  have he1 : ∀ j, ∀ u ∈ en j, u.oneCell' = true := fun j => by rw [hen]; simp [entAt, entC, repC, Value.oneCell']
  have hr7 : ∀ j, (rn j).length = 7 := fun j => by rw [hrn]; rfl
  have hre : ∀ j (q : Nat) (v : Value), (rn j)[q]? = some v → (en j)[q]? = some v := fun j q v h => by rw [hrn] at h; rw [hen]; exact ent_part q v h
  have hlo : ∀ V, Frm w.heap.size [] w V → ∀ j, j < n → (loadVar 81 ⟨eb, eo + j * 8, none⟩).run Try.prog V = .ok (.agg (en j).toArray) V := fun V hV j hj => by
    rw [hen]; exact (hrw.frm hV (Nat.le_refl _)).load (P := Try.prog) Try.underlying81 rfl (by omega) info81
  have hhc : ∀ V, Frm w.heap.size [] w V → ∀ j, j < n → Calls Try.prog 63 #[.pointer (some ⟨k, 0, none⟩), .int .i64 b, .agg (rn j).toArray, .int .i64 2] V fun e w' => e = .returned (.bool (hasI s b (s.rp j) 2)) ∧ Frm V.heap.size [] V w' := fun V hV j hj => by
    have hj' : j < s.reps.length := by omega
    rw [hrn]
    exact has_any (HH.out.still hV) b 2 (s.rp j) (m.ad j) (m.wb j) (m.wo j) (m.wc j) (HH.out.rok hj') ((HH.out.wh j hj').frm hV (Nat.le_refl _))
  clear hen hrn
  clear hrw
  have HX := Lib.hid hx
  have HY := Lib.hid hy
  have HXL := Lib.hid hxl
  have HYL := Lib.hid hyl
  have HJ9 := Lib.hid hj9
  have HJ0 := Lib.hid hj0
  have HINVJ := Lib.hid hinvJ
  have HVE := Lib.hid hve
  have HN := Lib.hid hn
  have HNM := Lib.hid hnm
  have HN0 := Lib.hid hn0
  have C3W := Lib.hid c3w
  have HLO := Lib.hid hlo
  have HHC := Lib.hid hhc
  have HE8 := Lib.hid he8
  have HE7 := Lib.hid he7
  have HE1 := Lib.hid he1
  have HR7 := Lib.hid hr7
  have HRE := Lib.hid hre
  have HAB := Lib.hid hab
  clear hab hre hr7 he1 he7 he8 hhc hlo c3w hn0 hnm hn hve hinvJ hj0 hj9 hyl hxl hy hx
  go_wp2_with fail
  clear h0' h0b hab' c3
  go_loopw [34] (fun s34 wr => ∃ j : Nat, s34 = .int .i64 j ∧ j ≤ n ∧ (∀ i, i < j → ¬ ((s.o i : Int) = a ∧ hasI s b (s.rp i) 2 = true)) ∧ Frm w.heap.size [] w wr) (fun s34 _ => n - (intOf s34).toNat)
  case atStart => exact ⟨0, rfl, Nat.zero_le _, fun i hi => absurd hi (by omega), HF.out⟩
  case round =>
    clear HF
    obtain ⟨j, rfl, hj, hno, hf⟩ := hrel
    by_cases hjl : j < n
    · have hjl' : (j : Int) < (n : Int) := by omega
      obtain ⟨y4, y5⟩ := wrapUp hjl (by have := HNM.out; unfold maxLen; omega)
      have hms := meas_up hjl
      obtain ⟨E, hE⟩ : ∃ E, E = en j := ⟨_, rfl⟩
      obtain ⟨R, hR⟩ : ∃ E, E = rn j := ⟨_, rfl⟩
      have he8 : E.length = 8 := by rw [hE]; exact HE8.out j
      have he7 : E[7]? = some (.int .i64 (s.o j : Int)) := by rw [hE]; exact HE7.out j
      have he1 : ∀ u ∈ E, u.oneCell' = true := by rw [hE]; exact HE1.out j
      have hlo : (loadVar 81 ⟨eb, eo + j * 8, none⟩).run Try.prog wr = .ok (.agg E.toArray) wr := by rw [hE]; exact HLO.out wr hf j hjl
      have hr7 : R.length = 7 := by rw [hR]; exact HR7.out j
      have hre : ∀ (q : Nat) (v : Value), R[q]? = some v → E[q]? = some v := by rw [hE, hR]; exact HRE.out j
      have hhc : ∀ V, Frm w.heap.size [] w V → Calls Try.prog 63 #[.pointer (some ⟨k, 0, none⟩), .int .i64 b, .agg R.toArray, .int .i64 2] V fun e w' => e = .returned (.bool (hasI s b (s.rp j) 2)) ∧ Frm V.heap.size [] V w' := fun V hV => by rw [hR]; exact HHC.out V hV j hjl
      clear hE hR
      have hno2 : ¬ ((s.o j : Int) = a ∧ hasI s b (s.rp j) 2 = true) → ∀ i, i < j + 1 → ¬ ((s.o i : Int) = a ∧ hasI s b (s.rp i) 2 = true) := fun h0 i hi => by
        rcases Nat.lt_or_ge i j with e | e
        · exact hno i e
        · obtain rfl : i = j := by omega
          exact h0
      obtain ⟨oj, hoj⟩ : ∃ c, c = (s.o j : Int) := ⟨_, rfl⟩
      rw [← hoj] at he7
      obtain ⟨W4, hW4⟩ : ∃ V, V = wr := ⟨_, rfl⟩
      rw [← hW4] at hf hlo ⊢
      clear hW4
      have HF := Lib.hid hf
      have HMS := Lib.hid hms
      have GLO := Lib.hid hlo
      have GE8 := Lib.hid he8
      have GE7 := Lib.hid he7
      have GE1 := Lib.hid he1
      have GR7 := Lib.hid hr7
      have GRE := Lib.hid hre
      have GHC := Lib.hid hhc
      have HNO := Lib.hid hno2
      have HOJ := Lib.hid hoj
      have HJL := Lib.hid hjl
      clear hjl hoj hno2 hhc hre hr7 he1 he7 he8 hlo hms hf
      clear hno
      go_wp2_with (first | (with_reducible refine atLoad 81 rfl ?_; refine wpList_loadE rfl rfl rfl GLO.out ?_) | (with_reducible refine atStore 81 rfl ?_; refine stop_ ?_))
      refine go_on ?_
      refine wpList_storeNew (P := Try.prog) (cs := E) rfl rfl rfl rfl (by rw [GE8.out]; rfl) (by rw [GE8.out]; exact info81) GE1.out ?_
      intro V1 hv1 k5 hz; clear hz
      obtain ⟨p5, hp5⟩ : ∃ p, p = W4.heap.size := ⟨_, rfl⟩
      have hf := HF.out.call hv1 HF.out.size (by simp)
      rw [← hp5] at k5 ⊢
      dsimp only [Act.put]
      have c7 : V1.cell? ⟨p5, 7, none⟩ = some (.int .i64 oj) := (k5.cell 7).trans GE7.out
      clear hp5 hv1 HF GLO
      by_cases e : oj = a
      rotate_left
      · have e1 : (oj == a) = false := by simp [e]
        have hno3 := HNO.out (fun h0 => e (by rw [HOJ.out]; exact h0.1))
        have HF := Lib.hid hf
        have HNO3 := Lib.hid hno3
        clear hno3 hf
        go_wp2_with fail
        exact ⟨⟨j + 1, by simp [y4, y5], HJL.out, HNO3.out, HF.out⟩, by have := HMS.out; simpa [intOf, y4, y5] using this⟩
      have hoja : (s.o j : Int) = a := by rw [← HOJ.out]; exact e
      subst e
      have hl24 : ∀ V, Frm V1.heap.size [] V1 V → (loadVar 24 ⟨p5, 0, none⟩).run Try.prog V = .ok (.agg R.toArray) V := fun V hV => (hV.blk k5 k5.lt (by simp)).loadPart (P := Try.prog) Try.underlying24 rfl R GRE.out (by rw [GR7.out]; exact info24)
      have hl24' := hl24 V1 (Frm.refl _ _ _)
      have hca := GHC.out V1 hf
      clear hl24
      cases hhi : hasI s b (s.rp j) 2
      · rw [hhi] at hca
        have hno3 := HNO.out (fun h0 => by rw [hhi] at h0; cases h0.2)
        have HF := Lib.hid hf
        have HNO3 := Lib.hid hno3
        have HCA := Lib.hid hca
        have HL24 := Lib.hid hl24'
        have HHI := Lib.hid hhi
        have HOJA := Lib.hid hoja
        have K5 := Lib.hid k5
        clear k5 hoja hhi hl24' hca hno3 hf
        go_wp2_with (with_reducible refine atLoad 24 rfl ?_; refine wpList_loadGE rfl rfl rfl HL24.out ?_)
        refine HCA.out.mono ?_; rintro e w3 ⟨rfl, hf1⟩
        have hf := HF.out.call hf1 HF.out.size (by simp)
        clear hf1 HF HCA HL24 c7
        have HF := Lib.hid hf
        clear hf
        go_wp2_with fail
        exact ⟨⟨j + 1, by simp [y4, y5], HJL.out, HNO3.out, HF.out⟩, by have := HMS.out; simpa [intOf, y4, y5] using this⟩
      · rw [hhi] at hca
        have hoy := HJ9.out (other_yes (by have := HJL.out; have := HN.out; omega) hoja hhi)
        have HF := Lib.hid hf
        have HOY := Lib.hid hoy
        have HCA := Lib.hid hca
        have HL24 := Lib.hid hl24'
        have HHI := Lib.hid hhi
        have HOJA := Lib.hid hoja
        have K5 := Lib.hid k5
        clear k5 hoja hhi hl24' hca hoy hf
        go_wp2_with (with_reducible refine atLoad 24 rfl ?_; refine wpList_loadGE rfl rfl rfl HL24.out ?_)
        refine HCA.out.mono ?_; rintro e w3 ⟨rfl, hf1⟩
        have hf := HF.out.call hf1 HF.out.size (by simp)
        clear hf1 HF HCA HL24 c7
        have HF := Lib.hid hf
        clear hf
        go_wp2_with fail
        go_ret
        rw [HOY.out]
        exact ⟨rfl, HST.out _ HF.out⟩
    · have hjl' : ¬ (j : Int) < (n : Int) := by omega
      obtain rfl : j = n := by omega
      have hno := HJ0.out (other_no (fun i hi => hno i (by have := HN.out; omega)))
      have c3 : wr.cell? ⟨k, 3, none⟩ = some (.slice (some ⟨eb, eo, none⟩) j ec) := (hf.cell HLK.out (by simp)).trans C3W.out
      clear HLO HHC HE8 HE7 HE1 HR7 HRE
      have hlen : j = s.of.length := by have := HH.out.inv.len; have := HN.out; omega
      have hraw0 : BookRaw wr k (stK s x b 0) m := by rw [stK_zero]; exact (HH.out.still hf).raw
      have hf2 := hf.narrow (S' := m.own k s) (by simp)
      obtain ⟨W5, hW5⟩ : ∃ V, V = wr := ⟨_, rfl⟩
      rw [← hW5] at hraw0 hf2 c3 ⊢
      clear hW5 hf
      have hoe : m.oe = some eb := by
        have := HH.out.ents
        rw [HVE.out] at this
        exact this.own_of
      have HRAW := Lib.hid hraw0
      have HF := Lib.hid hf2
      have HNO := Lib.hid hno
      have HLEN := Lib.hid hlen
      have HOE := Lib.hid hoe
      clear hoe hlen hno hf2 hraw0
      go_wp2_with fail
      clear c3
      go_loopw [55] (fun s55 wr => ∃ i : Nat, s55 = .int .i64 i ∧ i ≤ j ∧ BookRaw wr k (stK s x b i) m ∧ Frm w.heap.size (m.own k s) w wr) (fun s55 _ => j - (intOf s55).toNat)
      case atStart => exact ⟨0, rfl, Nat.zero_le _, HRAW.out, HF.out⟩
      case round =>
        clear HRAW HF
        obtain ⟨i, rfl, hi, hraw, hf⟩ := hrel
        by_cases hil : i < j
        · have hil' : (i : Int) < (j : Int) := by omega
          obtain ⟨y4, y5⟩ := wrapUp hil (by have := HNM.out; unfold maxLen; omega)
          have hms := meas_up hil
          have hio : i < s.of.length := by have := HLEN.out; omega
          have hir : i < s.reps.length := by have := HN.out; omega
          have c3 : wr.cell? ⟨k, 3, none⟩ = some (.slice (some ⟨eb, eo, none⟩) j ec) := by rw [HN.out, ← HVE.out]; exact hraw.blk.cell 3
          have hs := hraw.ents
          have hve : m.ve = .slice (some ⟨eb, eo, none⟩) (stK s x b i).reps.length ec := HVE.out
          rw [hve] at hs
          obtain ⟨ad2, b2, o2, c2', e2, hr2⟩ := Sl.rw (f := entAt (stK s x b i) m) hs (fun i => rfl)
          have had2 := hr2.ad (by show 0 < s.reps.length; omega)
          cases had2
          cases e2
          have cx : wr.cell? ⟨eb, eo + i * 8 + 7, none⟩ = some (.int .i64 (s.o i : Int)) := by
            rw [← stK_o s x b i hio]
            exact hr2.at_ i hir 7 _ rfl
          have gx := hs.free (eo + i * 8 + 7)
          by_cases hob : (s.o i : Int) = b
          rotate_left
          · have hob' : ((s.o i : Int) == b) = false := by simp [hob]
            rw [← stK_same s x b i hio hob] at hraw
            clear hs hr2 hve gx
            obtain ⟨oi, hoi⟩ : ∃ c, c = (s.o i : Int) := ⟨_, rfl⟩
            rw [← hoi] at cx hob hob'
            have HRAW := Lib.hid hraw
            have HF := Lib.hid hf
            have HMS := Lib.hid hms
            have HIL := Lib.hid hil
            have HIO := Lib.hid hio
            have HIR := Lib.hid hir
            have HOI := Lib.hid hoi
            clear hoi hir hio hil hms hf hraw
            go_wp2_with fail
            exact ⟨⟨i + 1, by simp [y4, y5], HIL.out, HRAW.out, HF.out⟩, by have := HMS.out; simpa [intOf, y4, y5] using this⟩
          have hraw2 : BookRaw (World.setCell wr ⟨eb, eo + i * 8 + 7, none⟩ (.int .i64 a)) k (stK s x b (i + 1)) m := by
            rw [stK_hit s x b i hio hob, HX.out]
            exact hraw.setOf (by rw [stK_len]; exact HH.out.inv.len) hve hir x
          have hf2 := hf.setCell (p := ⟨eb, eo + i * 8 + 7, none⟩) (.inl (own_iff.2 (.inr (.inl HOE.out)))) (.int .i64 a)
          rw [hob] at cx
          clear hs hr2 hve hraw hf
          have HRAW := Lib.hid hraw2
          have HF := Lib.hid hf2
          have HMS := Lib.hid hms
          have HIL := Lib.hid hil
          have HIO := Lib.hid hio
          have HIR := Lib.hid hir
          have HOB := Lib.hid hob
          clear hob hir hio hil hms hf2 hraw2
          go_wp2_with fail
          exact ⟨⟨i + 1, by simp [y4, y5], HIL.out, HRAW.out, HF.out⟩, by have := HMS.out; simpa [intOf, y4, y5] using this⟩
        · have hil' : ¬ (i : Int) < (j : Int) := by omega
          obtain rfl : i = j := by omega
          obtain ⟨oa, ob, oo, oc, hvo, hrwo⟩ := HH.out.rwO
          have had := hrwo.ad (by have := HXL.out; omega)
          subst had
          clear hrwo
          have hoo : m.oo = some ob := by
            have := HH.out.opn
            rw [hvo] at this
            exact this.own_of
          obtain ⟨sj, hsj⟩ : ∃ z, z = stK s x b i := ⟨_, rfl⟩
          have hopn : sj.opn = s.opn := by rw [hsj]; rfl
          have hend : (joinedS s a b) = { sj with opn := (sj.opn.set x true).set y false } := by
            rw [HX.out, HY.out, joined_eq, hsj, HLEN.out, ← HY.out, stK_all]
          rw [← hsj] at hraw
          obtain ⟨N, hN⟩ : ∃ c, c = sj.opn.length := ⟨_, rfl⟩
          have hxN : x < N := by rw [hN, hopn]; exact HXL.out
          have hyN : y < N := by rw [hN, hopn]; exact HYL.out
          have hvo2 : m.vo = .slice (some ⟨ob, oo, none⟩) sj.opn.length oc := by rw [hopn]; exact hvo
          have hxN' : (x : Int) < (N : Int) := by omega
          have hyN' : (y : Int) < (N : Int) := by omega
          clear hsj hopn hvo
          obtain ⟨W6, hW6⟩ : ∃ V, V = wr := ⟨_, rfl⟩
          rw [← hW6] at hraw hf ⊢
          clear hW6
          have HRAW := Lib.hid hraw
          have HF := Lib.hid hf
          have HEND := Lib.hid hend
          have HN5 := Lib.hid hN
          have HXN := Lib.hid hxN
          have HYN := Lib.hid hyN
          have HVO := Lib.hid hvo2
          have HOO := Lib.hid hoo
          clear hoo hvo2 hyN hxN hN hend hf hraw
          go_upto_region 20 with fail
          have hxx := HX.out
          have hyy := HY.out
          subst hxx
          subst hyy
          have hfx : ∀ V, Blk V k 64 (bookC sj m) → V.cell? ⟨k, 4, none⟩ = some (.slice (some ⟨ob, oo, none⟩) N oc) ∧ True := fun V hV => ⟨by rw [HN5.out, ← HVO.out]; exact hV.cell 4, trivial⟩
          refine wp_region_leftL (fun V => Blk V k 64 (bookC sj m)) 13 (by kernel_rfl) ?_
          have hraw := HRAW.out.still ((Frm.refl W6.heap.size [] W6).drew)
          have hf := HF.out.drew
          obtain ⟨W7, hW7⟩ : ∃ V, V = W6.drew := ⟨_, rfl⟩
          rw [← hW7] at hraw hf ⊢
          clear hW7 HRAW HF
          have hS := hraw.blk
          have hso := hraw.opn
          rw [HVO.out] at hso
          have cx : ∃ v, W7.cell? ⟨ob, oo + x, none⟩ = some (.bool v) := by
            have := hso.cell x (by simp [boolsC]; have := HXN.out; have := HN5.out; omega)
            rw [this]
            simp [boolsC, List.getElem?_eq_getElem (show x < sj.opn.length by have := HXN.out; have := HN5.out; omega)]
          obtain ⟨vx, cx⟩ := cx
          have gx := hso.free (oo + x)
          have hraw1 := hraw.setOpen HVO.out (by have := HXN.out; have := HN5.out; omega) true (at_ := x)
          have hf1 := hf.setCell (p := ⟨ob, oo + x, none⟩) (.inl (own_iff.2 (.inr (.inr (.inl HOO.out))))) (.bool true)
          clear hso hraw hf
          have HS := Lib.hid hS
          have HFX := Lib.hid hfx
          have HRAW := Lib.hid hraw1
          have HF := Lib.hid hf1
          have CX := Lib.hid cx
          have GX := Lib.hid gx
          clear gx cx hf1 hraw1 hfx hS
          first | (refine LeftL.tkG (v := ?_) 0 rfl HS.out ?_ ?_; rotate_left; · intro V hV; obtain ⟨z1, z2⟩ := HFX.out V hV; clear hV; go_simp; rfl) | refine LeftL.tkN 0 rfl HS.out ?_
          (intro K h; go_simp; refine h _ ?_; clear h K)
          first | (refine LeftL.tkG (v := ?_) 1 rfl HS.out ?_ ?_; rotate_left; · intro V hV; obtain ⟨z1, z2⟩ := HFX.out V hV; clear hV; go_simp; rfl) | refine LeftL.tkN 1 rfl HS.out ?_
          (intro K h; go_simp; refine h _ ?_; clear h K)
          first | (refine LeftL.tkG (v := ?_) 2 rfl HS.out ?_ ?_; rotate_left; · intro V hV; obtain ⟨z1, z2⟩ := HFX.out V hV; clear hV; go_simp; rfl) | refine LeftL.tkN 2 rfl HS.out ?_
          (intro K h; go_simp; refine h _ ?_; clear h K)
          first | (refine LeftL.tkG (v := ?_) 3 rfl HS.out ?_ ?_; rotate_left; · intro V hV; obtain ⟨z1, z2⟩ := HFX.out V hV; clear hV; go_simp; rfl) | refine LeftL.tkN 3 rfl HS.out ?_
          (intro K h; go_simp; refine h _ ?_; clear h K)
          first | (refine LeftL.tkG (v := ?_) 4 rfl HS.out ?_ ?_; rotate_left; · intro V hV; obtain ⟨z1, z2⟩ := HFX.out V hV; clear hV; go_simp; rfl) | refine LeftL.tkN 4 rfl HS.out ?_
          (intro K h; go_simp; refine h _ ?_; clear h K)
          first | (refine LeftL.tkG (v := ?_) 5 rfl HS.out ?_ ?_; rotate_left; · intro V hV; obtain ⟨z1, z2⟩ := HFX.out V hV; clear hV; go_simp; rfl) | refine LeftL.tkN 5 rfl HS.out ?_
          (intro K h; go_simp; refine h _ ?_; clear h K)
          first | (refine LeftL.tkG (v := ?_) 6 rfl HS.out ?_ ?_; rotate_left; · intro V hV; obtain ⟨z1, z2⟩ := HFX.out V hV; clear hV; go_simp; rfl) | refine LeftL.tkN 6 rfl HS.out ?_
          (intro K h; go_simp; refine h _ ?_; clear h K)
          first | (refine LeftL.tkG (v := ?_) 7 rfl HS.out ?_ ?_; rotate_left; · intro V hV; obtain ⟨z1, z2⟩ := HFX.out V hV; clear hV; go_simp; rfl) | refine LeftL.tkN 7 rfl HS.out ?_
          (intro K h; go_simp; refine h _ ?_; clear h K)
          first | (refine LeftL.tkG (v := ?_) 8 rfl HS.out ?_ ?_; rotate_left; · intro V hV; obtain ⟨z1, z2⟩ := HFX.out V hV; clear hV; go_simp; rfl) | refine LeftL.tkN 8 rfl HS.out ?_
          (intro K h; go_simp; refine h _ ?_; clear h K)
          first | (refine LeftL.tkG (v := ?_) 9 rfl HS.out ?_ ?_; rotate_left; · intro V hV; obtain ⟨z1, z2⟩ := HFX.out V hV; clear hV; go_simp; rfl) | refine LeftL.tkN 9 rfl HS.out ?_
          (intro K h; go_simp; refine h _ ?_; clear h K)
          first | (refine LeftL.tkG (v := ?_) 10 rfl HS.out ?_ ?_; rotate_left; · intro V hV; obtain ⟨z1, z2⟩ := HFX.out V hV; clear hV; go_simp; rfl) | refine LeftL.tkN 10 rfl HS.out ?_
          (intro K h; go_simp; refine h _ ?_; clear h K)
          have cx := CX.out
          have gx := GX.out
          refine LeftL.one 11 rfl (by kernel_rfl) ?_
          go_wp2_with fail
          clear cx gx CX GX HS
          have hraw := HRAW.out
          have hf := HF.out
          generalize World.setCell W7 _ _ = W8 at hraw hf ⊢
          clear HRAW HF
          have hS : Blk W8 k 64 (bookC sj m) := hraw.blk
          have hso := hraw.opn
          have hvo3 : m.vo = .slice (some ⟨ob, oo, none⟩) (sj.opn.set x true).length oc := by rw [List.length_set]; exact HVO.out
          rw [show m.vo = .slice (some ⟨ob, oo, none⟩) ({ sj with opn := sj.opn.set x true } : BS).opn.length oc from hvo3] at hso
          have hyl : y < (sj.opn.set x true).length := by rw [List.length_set]; have := HYN.out; have := HN5.out; omega
          have cy : ∃ v, W8.cell? ⟨ob, oo + y, none⟩ = some (.bool v) := by
            have := hso.cell y (by simp only [boolsC, List.length_map]; exact hyl)
            rw [this]
            simp only [boolsC, List.getElem?_map, List.getElem?_eq_getElem hyl, Option.map_some]
            exact ⟨_, rfl⟩
          obtain ⟨vy, cy⟩ := cy
          have gy := hso.free (oo + y)
          have hraw1 := hraw.setOpen (at_ := y) hvo3 hyl false
          have hf1 := hf.setCell (p := ⟨ob, oo + y, none⟩) (.inl (own_iff.2 (.inr (.inr (.inl HOO.out))))) (.bool false)
          clear hso hraw hf hvo3 hyl
          have HS := Lib.hid hS
          have HRAW := Lib.hid hraw1
          have HF := Lib.hid hf1
          have CY := Lib.hid cy
          have GY := Lib.hid gy
          clear gy cy hf1 hraw1 hS
          first | refine ⟨fun _ => HS.out, ?_⟩ | refine ⟨HS.out, ?_⟩
          refine LeftL.one 12 rfl (by kernel_rfl) ?_
          go_wp2_with fail
          first | refine ⟨fun _ => HS.out, ?_⟩ | refine ⟨HS.out, ?_⟩
          have cy := CY.out
          have gy := GY.out
          refine LeftL.one 13 rfl (by kernel_rfl) ?_
          go_wp2_with fail
          clear cy gy CY GY HS
          have hraw := HRAW.out
          have hf := HF.out
          generalize World.setCell W8 _ _ = W9 at hraw hf ⊢
          clear HRAW HF
          refine ⟨fun h => absurd rfl h, ?_⟩
          refine LeftL.done (by kernel_rfl) ?_
          have hbk : BookAt W9 k (joinedS s (x : Int) (y : Int)) m := by
            have h1 := HINVJ.out
            rw [HNO.out] at h1
            rw [HEND.out] at h1 ⊢
            exact hraw.at_ h1
          clear hraw
          have HBK := Lib.hid hbk
          have HF := Lib.hid hf
          clear hf hbk
          go_wp2_with fail
          go_ret
          rw [HNO.out]
          exact ⟨rfl, m, HBK.out, ⟨HF.out, fun q hq => .inl (by
            rcases own_iff.1 hq with e | e | e | e | ⟨i2, h2, e⟩
            · exact own_iff.2 (.inl e)
            · exact own_iff.2 (.inr (.inl e))
            · exact own_iff.2 (.inr (.inr (.inl e)))
            · exact own_iff.2 (.inr (.inr (.inr (.inl e))))
            · exact own_iff.2 (.inr (.inr (.inr (.inr ⟨i2, h2, e⟩)))))⟩⟩
end Go.Proofs.Ythgmdilfmeefiaa

namespace Go.Proofs.Ythgmdilfmeefiaa
set_option linter.all false
set_option linter.unusedSimpArgs false
set_option linter.unusedVariables false
open Go.RowKit

theorem act_what (x : Act_) (q : APos) : (actC x q)[0]? = some (.int .i64 x.what) := rfl
theorem act_n (x : Act_) (q : APos) : (actC x q)[1]? = some (.int .i64 x.n) := rfl
theorem act_m (x : Act_) (q : APos) : (actC x q)[2]? = some (.int .i64 x.m) := rfl
theorem act_len (x : Act_) (q : APos) : (actC x q).length = 16 := rfl
theorem act_rep (x : Act_) (q : APos) (j : Nat) (v : Value) (h : (repC x.r q.ra q.rc)[j]? = some v) : (actC x q)[3 + j]? = some v := by
  have hj : j < 7 := (List.getElem?_eq_some_iff.1 h).1
  match j, hj, h with
  | 0, _, h => exact h
  | 1, _, h => exact h
  | 2, _, h => exact h
  | 3, _, h => exact h
  | 4, _, h => exact h
  | 5, _, h => exact h
  | 6, _, h => exact h
theorem act_prf (x : Act_) (q : APos) (j : Nat) (v : Value) (h : (prfA x.p q.pa q.pc)[j]? = some v) : (actC x q)[10 + j]? = some v := by
  have hj : j < 6 := (List.getElem?_eq_some_iff.1 h).1
  match j, hj, h with
  | 0, _, h => exact h
  | 1, _, h => exact h
  | 2, _, h => exact h
  | 3, _, h => exact h
  | 4, _, h => exact h
  | 5, _, h => exact h
theorem act_one (x : Act_) (q : APos) : ∀ u ∈ actC x q, u.oneCell' = true := by simp [actC, repC, prfA, Value.oneCell']
theorem info41 : (Try.prog.info? 41).map (fun i => i.size) = some 16 := by kernel_rfl
/-- The calls, to be read. -/
abbrev RwA (w : World) (ad : Option Addr) (b off len : Nat) (A : Nat → Act_ × APos) : Prop := Rw w 16 ad b off len fun i => actC (A i).1 (A i).2
theorem RwA.rep {w : World} {ad : Option Addr} {b off len : Nat} {A : Nat → Act_ × APos} (h : RwA w ad b off len A) {i : Nat} (hi : i < len) : (loadVar 24 ⟨b, off + i * 16 + 3, none⟩).run Try.prog w = .ok (.agg (repC (A i).1.r (A i).2.ra (A i).2.rc).toArray) w :=
  run_loadVar_mid w b (off + i * 16 + 3) 24 _ _ (fun j v hv => by have := h.at_ i hi _ v (act_rep _ _ j v hv); rw [← Nat.add_assoc] at this; exact this) Try.underlying24 rfl info24
set_option maxRecDepth 100000 in
set_option maxHeartbeats 8000000 in
theorem greats_any (ad : Option Addr) (b off len cap : Nat) (A : Nat → Act_ × APos) (w : World) (hr : RwA w ad b off len A) :
    Calls Try.prog 13 #[.slice ad len cap] w fun e w' => (e = .returned (.bool true) ∨ e = .returned (.bool false) ∧ len ≤ 60) ∧ Frm w.heap.size [] w w' := by
  have hf0 := Try.func13
  have hlen := hr.len
  have had := hr.ad
  by_cases h60 : 60 < len
  · have h60' : (60 : Int) < (len : Int) := by omega
    go_enter Try.func13, Try.ntmps13
    go_wp2_with fail
    go_ret
    exact ⟨.inl rfl, Frm.refl _ _ _⟩
  have h60' : ¬ (60 : Int) < (len : Int) := by omega
  have HR := Lib.hid hr
  have HAD := Lib.hid had
  have HLEN := Lib.hid hlen
  have H60 := Lib.hid h60
  clear h60 hlen had hr
  go_enter Try.func13, Try.ntmps13
  go_wp2_with fail
  go_loopw [3] (fun s3 wr => ∃ i : Nat, s3 = .int .i64 i ∧ i ≤ len ∧ Frm w.heap.size [] w wr) (fun s3 _ => len - (intOf s3).toNat)
  case atStart => exact ⟨0, rfl, Nat.zero_le _, Frm.refl _ _ _⟩
  case round =>
    obtain ⟨i, rfl, hi, hf⟩ := hrel
    by_cases hil : i < len
    rotate_left
    · have hil' : ¬ (i : Int) < (len : Int) := by omega
      obtain rfl : i = len := by omega
      have HF := Lib.hid hf
      clear hf
      go_wp2_with fail
      go_ret
      exact ⟨.inr ⟨rfl, by have := H60.out; omega⟩, HF.out⟩
    have hil' : (i : Int) < (len : Int) := by omega
    have had := HAD.out (by omega)
    subst had
    obtain ⟨y4, y5⟩ := wrapUp hil HLEN.out
    have hms := meas_up hil
    have hrw := HR.out.frm hf (Nat.le_refl _)
    have hlo := RwA.rep hrw hil
    have hat := hrw.at_ i hil
    have c13 : wr.cell? ⟨b, off + i * 16 + 10 + 3, none⟩ = some (.string (A i).1.p.by_) := by have := hat 13 _ (act_prf _ _ 3 _ rfl); exact this
    have c14 : wr.cell? ⟨b, off + i * 16 + 10 + 4, none⟩ = some (.slice (A i).2.pa (A i).1.p.wh.length (A i).2.pc) := by have := hat 14 _ (act_prf _ _ 4 _ rfl); exact this
    obtain ⟨R, hR⟩ : ∃ R, R = repC (A i).1.r (A i).2.ra (A i).2.rc := ⟨_, rfl⟩
    have hgc : ∀ V, Calls Try.prog 9 #[.agg R.toArray] V fun e w' => e = .returned (.bool (greatB (A i).1.r)) ∧ Frm V.heap.size [] V w' := fun V => by rw [hR]; exact great_any _ _ _ V
    obtain ⟨g, hg⟩ : ∃ g, g = greatB (A i).1.r := ⟨_, rfl⟩
    obtain ⟨by_, hby⟩ : ∃ g, g = (A i).1.p.by_ := ⟨_, rfl⟩
    obtain ⟨pl, hpl⟩ : ∃ g, g = (A i).1.p.wh.length := ⟨_, rfl⟩
    obtain ⟨pa, hpa⟩ : ∃ g, g = (A i).2.pa := ⟨_, rfl⟩
    obtain ⟨pc, hpc⟩ : ∃ g, g = (A i).2.pc := ⟨_, rfl⟩
    rw [← hR] at hlo
    simp only [← hg] at hgc
    rw [← hby] at c13
    rw [← hpl, ← hpa, ← hpc] at c14
    have c13' := fun (V : World) (hV : Frm wr.heap.size [] wr V) => (hV.cell (cell_lt c13) (by simp)).trans c13
    have c14' := fun (V : World) (hV : Frm wr.heap.size [] wr V) => (hV.cell (cell_lt c14) (by simp)).trans c14
    clear hR hg hby hpl hpa hpc hat hrw c13 c14
    have HF := Lib.hid hf
    have HLO := Lib.hid hlo
    have HGC := Lib.hid hgc
    have C13 := Lib.hid c13'
    have C14 := Lib.hid c14'
    have HMS := Lib.hid hms
    have HIL := Lib.hid hil
    clear hil hms c14' c13' hgc hlo hf
    go_wp2_with (with_reducible refine atLoad 24 rfl ?_; refine wpList_loadE rfl rfl rfl HLO.out ?_)
    refine (HGC.out wr).mono ?_; rintro e w1 ⟨rfl, hf1⟩
    have c13 := C13.out w1 hf1
    have c14 := C14.out w1 hf1
    have hf := HF.out.call hf1 HF.out.size (by simp)
    clear hf1 HF HLO HGC C13 C14
    have HF := Lib.hid hf
    clear hf
    cases g
    rotate_left
    · go_wp2_with fail
      go_ret
      exact ⟨.inl rfl, HF.out⟩
    by_cases hs : 100 < by_.size
    · have hs' : (100 : Int) < (by_.size : Int) := by omega
      go_wp2_with fail
      go_ret
      exact ⟨.inl rfl, HF.out⟩
    have hs' : ¬ (100 : Int) < (by_.size : Int) := by omega
    by_cases hp : 30 < pl
    · have hp' : (30 : Int) < (pl : Int) := by omega
      go_wp2_with fail
      go_ret
      exact ⟨.inl rfl, HF.out⟩
    have hp' : ¬ (30 : Int) < (pl : Int) := by omega
    go_wp2_with fail
    exact ⟨⟨i + 1, by simp [y4, y5], HIL.out, HF.out⟩, by have := HMS.out; simpa [intOf, y4, y5] using this⟩
def hasL (l : List Nat) (n : Int) : Bool := l.any fun x => decide ((x : Int) = n)
set_option maxHeartbeats 4000000 in
theorem hasN_any {w0 w : World} {v : Value} {l : List Nat} (h : Ints w0 w v l) (hl : l.length ≤ 1000) (n : Int) : Calls Try.prog 20 #[v, .int .i64 n] w fun e w' => e = .returned (.bool (hasL l n)) ∧ w = w' := by
  have hf0 := Try.func20
  obtain ⟨own, hsl, _⟩ := h
  obtain ⟨ad, b, off, cap, rfl, hr⟩ := ints_at0 hsl
  obtain ⟨len, hlen⟩ : ∃ c, c = l.length := ⟨_, rfl⟩
  have had := hr.ad
  rw [← hlen] at hr had hl ⊢
  have hcell : ∀ i, i < len → w.cell? ⟨b, off + i, none⟩ = some (.int .i64 (at0 l i)) := fun i hi => hr.cellI hi
  have hyes : ∀ i, i < len → at0 l i = n → hasL l n = true := fun i hi he => by
    unfold hasL
    rw [List.any_eq_true]
    refine ⟨l[i]'(by omega), List.getElem_mem _, ?_⟩
    unfold at0 at he
    rw [List.getD_eq_getElem?_getD, List.getElem?_eq_getElem (by omega)] at he
    simpa using he
  have hno : (∀ i, i < len → ¬ at0 l i = n) → hasL l n = false := fun hn => by
    unfold hasL
    rw [List.any_eq_false]
    intro x hx
    obtain ⟨i, hi, rfl⟩ := List.getElem_of_mem hx
    have := hn i (by omega)
    unfold at0 at this
    rw [List.getD_eq_getElem?_getD, List.getElem?_eq_getElem hi] at this
    simpa using this
  obtain ⟨res, hres⟩ : ∃ c, c = hasL l n := ⟨_, rfl⟩
  rw [← hres] at hyes hno ⊢
  clear hres hlen hr hsl
  have HYES := Lib.hid hyes
  have HNO := Lib.hid hno
  have HAD := Lib.hid had
  have HCE := Lib.hid hcell
  have HL := Lib.hid hl
  clear hl hcell had hno hyes
  go_enter Try.func20, Try.ntmps20
  go_wp2_with fail
  go_loop [5] (fun s5 => ∃ i : Nat, s5 = .int .i64 i ∧ i ≤ len ∧ ∀ j, j < i → ¬ at0 l j = n) (fun s5 => len - (intOf s5).toNat)
  case atStart => exact ⟨0, rfl, Nat.zero_le _, fun j hj => absurd hj (by omega)⟩
  case round =>
    obtain ⟨i, rfl, hi, hn⟩ := hrel
    by_cases hil : i < len
    rotate_left
    · have hil' : ¬ (i : Int) < (len : Int) := by omega
      obtain rfl : i = len := by omega
      have hno := HNO.out hn
      have HR := Lib.hid hno
      have HN := Lib.hid hn
      clear hn hno
      go_wp2_with fail
      go_ret
      exact ⟨by rw [HR.out]; rfl, rfl⟩
    have hil' : (i : Int) < (len : Int) := by omega
    have had := HAD.out (by omega)
    subst had
    obtain ⟨y4, y5⟩ := wrapUp hil (by have := HL.out; unfold maxLen; omega)
    have hms := meas_up hil
    have hce := HCE.out i hil
    obtain ⟨x, hx⟩ : ∃ c, c = at0 l i := ⟨_, rfl⟩
    rw [← hx] at hce
    by_cases e : x = n
    · have hy := HYES.out i hil (by rw [← hx]; exact e)
      subst e
      have HR := Lib.hid hy
      have HN := Lib.hid hn
      have HX := Lib.hid hx
      clear hx hn hy
      go_wp2_with fail
      go_ret
      exact ⟨by rw [HR.out]; rfl, rfl⟩
    have e1 : (x == n) = false := by simp [e]
    have hn2 : ∀ j, j < i + 1 → ¬ at0 l j = n := fun j hj => by
      rcases Nat.lt_or_ge j i with h | h
      · exact hn j h
      · obtain rfl : j = i := by omega
        rw [← hx]; exact e
    have HN := Lib.hid hn2
    have HN0 := Lib.hid hn
    have HX := Lib.hid hx
    have HMS := Lib.hid hms
    have HIL := Lib.hid hil
    clear hil hms hx hn hn2
    go_wp2_with fail
    exact ⟨⟨i + 1, by simp [y4, y5], HIL.out, HN.out⟩, by have := HMS.out; simpa [intOf, y4, y5] using this⟩
end Go.Proofs.Ythgmdilfmeefiaa
