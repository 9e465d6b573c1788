/-
  The document: Join.
-/
import Derived.Test.YthgmdilfmeefiaaJ61
namespace Go.Proofs.Ythgmdilfmeefiaa
set_option linter.all false
set_option linter.unusedSimpArgs false
set_option linter.unusedVariables false
open Go.RowKit

theorem of_news {w : World} {s : BS} {ad : Option Addr} {b off : Nat} (h : RwI w ad b off s.reps.length fun i => (s.o i : Int)) (hlen : s.of.length = s.reps.length) (j : Nat) (u : Value) (hj : (intsC s.of)[j]? = some u) : w.cell? ((⟨b, off, none⟩ : Addr).add j) = some u := by
  have hl : j < s.of.length := by
    rcases Nat.lt_or_ge j s.of.length with e | e
    · exact e
    · rw [List.getElem?_eq_none (by rw [intsC_len]; exact e)] at hj
      cases hj
  simp only [intsC, List.getElem?_map, List.getElem?_eq_getElem hl, Option.map_some, Option.some.injEq] at hj
  subst hj
  have := h.cellI (i := j) (by omega)
  have e : s.o j = s.of[j] := by
    unfold BS.o
    simp [List.getD_eq_getElem?_getD, List.getElem?_eq_getElem hl]
  rw [e] at this
  rw [Addr.add_mid]
  exact this
theorem of_rw {w : World} {l : List Nat} {b o c n : Nat} {own : Option Nat} (hs : Sl w 3 1 (.slice (some ⟨b, o, none⟩) n c) n (intsC l) own) : RwI w (some ⟨b, o, none⟩) b o n fun i => (l.getD i 0 : Int) := by
  obtain ⟨_, ad, b2, o2, c2, e, hr⟩ := hs.ints
  cases e
  by_cases h0 : 0 < n
  · have := hr.ad h0
    cases this
    exact hr
  · exact ⟨fun h => absurd h h0, hr.len, fun i hi => absurd hi (by omega)⟩
theorem info3y : (Try.prog.info? 3).map (fun i => (i.zero, i.size, i.bytes)) = some (some (.int .i64 0), 1, 8) := by kernel_rfl
/-- The memory behind Join. -/
def RMem.joined (m : RMem) (fb fo fc ob oo oc : Nat) : RMem := { m with oa := some ⟨fb, fo, none⟩, ob := fb, oo := fo, oc := fc, pa := some ⟨ob, oo, none⟩, pb := ob, po := oo, pc := oc }
theorem RNext.joined {w w' : World} {s s' : BS} {m : RMem} {X : List Nat → Prop} (h : RefAt w s m) (hf : Frm w.heap.size [] w w') (h1 : s'.reps = s.reps) (h2 : s'.prf = s.prf) {fb fo fc ob oo oc : Nat}
    (hof : RwI w' (some ⟨fb, fo, none⟩) fb fo s.reps.length fun i => (s'.o i : Int)) (hopn : Rw w' 1 (some ⟨ob, oo, none⟩) ob oo s'.opn.length (fun i => [.bool (s'.opn.getD i false)]))
    (hfb : w.heap.size ≤ fb) (hob : w.heap.size ≤ ob) (hi : BInv s') : RNext w w' s s' m (m.joined fb fo fc ob oo oc) X := by
  have hh := h.still hf
  have e1 : ∀ i, s'.rp i = s.rp i := fun i => by unfold BS.rp; rw [h1]
  have e2 : ∀ i, s'.pf i = s.pf i := fun i => by unfold BS.pf; rw [h2]
  refine ⟨⟨?_, ?_, ?_, hopn, ?_, ?_, hi⟩, hf, fun S hS _ ha => ⟨?_, ?_, ?_, ?_, ?_⟩⟩
  · rw [h1]; exact hh.reps.congr fun i _ => by simp only [RMem.joined, e1]
  · intro i hi; rw [h1] at hi; rw [e1]; exact hh.wh i hi
  · rw [h1]; exact hof
  · rw [h2]; exact hh.prf.congr fun i _ => by simp only [RMem.joined, e2]
  · intro i hi; rw [h2] at hi; rw [e2]; exact hh.xw i hi
  · intro h0
    rw [h1] at h0
    exact ⟨(ha.reps h0).1, fun hm => by have := hS _ hm; simp only [RMem.joined] at this; omega⟩
  · exact fun _ hm => by have := hS _ hm; simp only [RMem.joined] at this; omega
  · intro h0; rw [h2] at h0; exact ha.prf h0
  · intro i hi h0; rw [h1] at hi; rw [e1] at h0; exact ha.wh i hi h0
  · intro i hi h0; rw [h2] at hi; rw [e2] at h0; exact ha.xw i hi h0
set_option maxRecDepth 100000 in
set_option maxHeartbeats 16000000 in
theorem refJoin_any {w : World} {s : BS} {m : RMem} (h : RefAt w s m) (a b : Int) :
    Calls Try.prog 44 #[.agg (refC s m).toArray, .int .i64 a, .int .i64 b] w fun e w' => ∃ m', e = .returned (.tuple #[.agg (refC (joinS s a b).1 m').toArray, .int .i64 (joinS s a b).2]) ∧ RNext w w' s (joinS s a b).1 m m' (fun _ => True) := by
  have hf0 := Try.func44
  obtain ⟨i4, hi4, hz40, hz41, hz42⟩ := info_parts3 info4z
  obtain ⟨i3, hi3, hz30, hz31, hz32⟩ := info_parts3 info3y
  have h70 : ∀ V i, Frm w.heap.size [] w V → Calls Try.prog 70 #[.agg (refC s m).toArray, .int .i64 i] V fun e w' => ∃ v, e = .returned v ∧ Ints V w' v (ofL s i) ∧ Frm V.heap.size [] V w' := fun V i hV => refOf_any (h.still hV) i
  obtain ⟨n, hn⟩ : ∃ n, n = s.reps.length := ⟨_, rfl⟩
  have hnm : n ≤ 500 := by rw [hn]; exact h.inv.max.1
  obtain ⟨no, hno⟩ : ∃ n, n = s.opn.length := ⟨_, rfl⟩
  have hnom : no ≤ 500 := by have := h.inv.opn; have := h.inv.max.1; omega
  have hnon : no ≤ n := by have := h.inv.opn; omega
  obtain ⟨C, hC⟩ : ∃ C, C = refC s m := ⟨_, rfl⟩
  have hz6 : C.length = 6 := by rw [hC]; rfl
  have hc1 : ∀ u ∈ C, u.oneCell' = true := by rw [hC]; exact refC_one s m
  have hc2 : C[2]? = some (.slice m.ra n m.rc) := by rw [hC, hn]; rfl
  have hc3 : C[3]? = some (.slice m.oa n m.oc) := by rw [hC, hn]; rfl
  have hc4 : C[4]? = some (.slice m.pa no m.pc) := by rw [hC, hno]; rfl
  obtain ⟨La, hLa⟩ : ∃ L, L = ofL s a := ⟨_, rfl⟩
  obtain ⟨Lb, hLb⟩ : ∃ L, L = ofL s b := ⟨_, rfl⟩
  have h70a : ∀ V, Frm w.heap.size [] w V → Calls Try.prog 70 #[.agg C.toArray, .int .i64 a] V fun e w' => ∃ v, e = .returned v ∧ Ints V w' v La ∧ Frm V.heap.size [] V w' := fun V hV => by rw [hC, hLa]; exact h70 V a hV
  have h70b : ∀ V, Frm w.heap.size [] w V → Calls Try.prog 70 #[.agg C.toArray, .int .i64 b] V fun e w' => ∃ v, e = .returned v ∧ Ints V w' v Lb ∧ Frm V.heap.size [] V w' := fun V hV => by rw [hC, hLb]; exact h70 V b hV
  obtain ⟨la, hla⟩ : ∃ c, c = La.length := ⟨_, rfl⟩
  obtain ⟨lb, hlb⟩ : ∃ c, c = Lb.length := ⟨_, rfl⟩
  have hlam : la ≤ 500 := by rw [hla, hLa]; exact of_len h.inv a
  have hlbm : lb ≤ 500 := by rw [hlb, hLb]; exact of_len h.inv b
  obtain ⟨res, hres⟩ : ∃ c, c = joinS s a b := ⟨_, rfl⟩
  rw [← hres, ← hC]
  clear h70
  have HH := Lib.hid h
  have HN := Lib.hid hn
  have HNM := Lib.hid hnm
  have HNO := Lib.hid hno
  have HNOM := Lib.hid hnom
  have HNON := Lib.hid hnon
  have HC := Lib.hid hC
  have HZ6 := Lib.hid hz6
  have HC1 := Lib.hid hc1
  have HC2 := Lib.hid hc2
  have HC3 := Lib.hid hc3
  have HC4 := Lib.hid hc4
  have HLA := Lib.hid hLa
  have HLB := Lib.hid hLb
  have H70A := Lib.hid h70a
  have H70B := Lib.hid h70b
  have HNA := Lib.hid hla
  have HNB := Lib.hid hlb
  have HLAM := Lib.hid hlam
  have HLBM := Lib.hid hlbm
  have HRES := Lib.hid hres
  have HI4 := Lib.hid hi4
  have HZ40 := Lib.hid hz40
  have HZ41 := Lib.hid hz41
  have HZ42 := Lib.hid hz42
  have HI3 := Lib.hid hi3
  have HZ30 := Lib.hid hz30
  have HZ31 := Lib.hid hz31
  have HZ32 := Lib.hid hz32
  clear hz32 hz31 hz30 hi3 hz42 hz41 hz40 hi4 hres hlbm hlam hlb hla h70b h70a hLb hLa hc4 hc3 hc2 hc1 hz6 hC hnon hnom hno hnm hn h
  go_enter Try.func44, Try.ntmps44
  go_upto_region 1 with fail
  refine namedC ?_; intro W hW
  have k2 : Blk W w.heap.size 55 C := by rw [hW]; refine Blk.alloc' ?_; exact Blk.new w 55 C
  have k4 : Blk W (w.heap.size + 1) 55 zero55 := by rw [hW]; exact Blk.new' _ 55 zero55 (by simp)
  have hf : Frm w.heap.size [] w W := by rw [hW]; repeat (first | with_reducible exact Frm.refl _ _ _ | with_reducible refine Frm.drewN ?_ | with_reducible refine Frm.drew ?_ | ((with_reducible refine Frm.setCell' ?_ ?_); · first | (left; simp; done) | (right; simp; done) | (right; simp; omega)) | ((with_reducible refine Frm.alloc' ?_ ?_); · first | exact Nat.le_refl _ | (simp; done) | (simp; omega)))
  have hfx : ∀ V, Frm W.heap.size [] W V → True ∧ True := fun V hV => ⟨trivial, trivial⟩
  have hl55 : ∀ V, Frm W.heap.size [] W V → (loadVar 55 ⟨w.heap.size, 0, none⟩).run Try.prog V = .ok (.agg C.toArray) V := fun V hV => load55 (hV.blk k2 k2.lt (by simp)) HZ6.out
  clear hW hf0
  have HF := Lib.hid hf
  have K2 := Lib.hid k2
  have K4 := Lib.hid k4
  have HFX := Lib.hid hfx
  have HL55 := Lib.hid hl55
  clear hl55 hfx k4 k2 hf
  refine wp_region_leftL (fun V => Frm W.heap.size [] W V) 1000 (by kernel_rfl) ?_
  have hS : Frm W.heap.size [] W W.drew := (Frm.refl _ _ W).drew
  have HS := Lib.hid hS
  clear hS
  refine LeftL.take 0 rfl (by kernel_rfl) (fun _ _ d _ _ h => by cases d <;> exact h) (yields_loadE (ty := 55) rfl rfl rfl (HL55.out)) HS.out ?_; (intro K' hK'; go_simp; refine hK' _ ?_; clear hK' K')
  first | (refine LeftL.tkG (v := ?_) 1 rfl HS.out ?_ ?_; rotate_left; · intro V hV; obtain ⟨z1, z2⟩ := HFX.out V hV; clear hV; go_simp; rfl) | refine LeftL.tkN 1 rfl HS.out ?_
  (intro K h; go_simp; refine h _ ?_; clear h K)
  refine LeftL.take 3 rfl (by kernel_rfl) (fun _ _ d _ _ h => by cases d <;> exact h) (yields_loadE (ty := 55) rfl rfl rfl (HL55.out)) HS.out ?_; (intro K' hK'; go_simp; refine hK' _ ?_; clear hK' K')
  first | (refine LeftL.tkG (v := ?_) 4 rfl HS.out ?_ ?_; rotate_left; · intro V hV; obtain ⟨z1, z2⟩ := HFX.out V hV; clear hV; go_simp; rfl) | refine LeftL.tkN 4 rfl HS.out ?_
  (intro K h; go_simp; refine h _ ?_; clear h K)
  refine LeftL.one 2 rfl (by kernel_rfl) ?_
  go_wp2_with fail
  refine (H70A.out _ (HF.out.call HS.out HF.out.size (by simp))).mono ?_; rintro e w1 ⟨v1, rfl, hin1, hf1⟩
  have hS1 := HS.out.call hf1 HS.out.size (by simp)
  obtain ⟨aa, ac, rfl⟩ := hin1.form
  rw [← HNA.out]
  have hnw : w.heap.size + 1 < w1.heap.size := Nat.lt_of_lt_of_le K4.out.lt hS1.size
  clear hf1 HS
  have HS := Lib.hid hS1
  have HIN1 := Lib.hid hin1
  have HNW := Lib.hid hnw
  clear hnw hin1 hS1
  go_wp2_with fail
  first | refine ⟨fun _ => HS.out, ?_⟩ | refine ⟨HS.out, ?_⟩
  refine LeftL.one 5 rfl (by kernel_rfl) ?_
  go_wp2_with fail
  refine (H70B.out _ (HF.out.call HS.out HF.out.size (by simp))).mono ?_; rintro e w2 ⟨v2, rfl, hin2, hf1⟩
  have hS1 := HS.out.call hf1 HS.out.size (by simp)
  have hin1 := HIN1.out.call hf1
  obtain ⟨ba, bc, rfl⟩ := hin2.form
  rw [← HNA.out] at hin1
  rw [← HNB.out]
  clear hf1 HS HIN1
  have HS := Lib.hid hS1
  have HIN1 := Lib.hid hin1
  have HIN2 := Lib.hid hin2
  clear hin2 hin1 hS1
  go_wp2_with fail
  first | refine ⟨fun _ => HS.out, ?_⟩ | refine ⟨HS.out, ?_⟩
  refine LeftL.one 6 rfl (by kernel_rfl) ?_
  go_wp2_with fail
  first | refine ⟨fun _ => HS.out, ?_⟩ | refine ⟨HS.out, ?_⟩
  refine LeftL.one 7 rfl (by kernel_rfl) ?_
  go_wp2_with fail
  first | refine ⟨fun _ => HS.out, ?_⟩ | refine ⟨HS.out, ?_⟩
  refine LeftL.done (by kernel_rfl) ?_
  have k2 := HS.out.blk K2.out K2.out.lt (by simp)
  have k4 := HS.out.blk K4.out K4.out.lt (by simp)
  have hf := HF.out.call HS.out HF.out.size (by simp)
  clear HS HF K2 K4 HFX HL55 H70A H70B
  have HF := Lib.hid hf
  have K2 := Lib.hid k2
  have K4 := Lib.hid k4
  clear k4 k2 hf
  by_cases h0 : la = 0
  · have hc : res = (s, 7) := by rw [HRES.out]; unfold joinS; rw [if_pos (.inl (List.eq_nil_of_length_eq_zero (by rw [← HLA.out, ← HNA.out]; exact h0)))]
    subst h0
    subst hc
    go_wp2_with (first | (with_reducible refine atLoad 55 rfl ?_; refine wpList_loadE rfl rfl rfl (load55 K2.out HZ6.out) ?_) | (with_reducible refine atStore 55 rfl ?_; refine stop_ ?_))
    refine go_on ?_
    refine wpList_storeB (P := Try.prog) (cs := C) rfl rfl K4.out rfl rfl (by rw [HZ6.out]; rfl) (by rw [HZ6.out]; exact info55) HC1.out ?_
    have k4 := K4.out.row C
    have hf := HF.out.setRow (g := w.heap.size + 1) (.inr (by omega)) C.toArray
    generalize World.setRow w2 _ _ = w9 at k4 hf ⊢
    clear HF K4 K2
    dsimp only [Act.put]
    have hi6 : (Try.prog.info? 55).map (fun i => i.size) = some C.length := by rw [HZ6.out]; exact info55
    have HF := Lib.hid hf
    have K4 := Lib.hid k4
    have HI6 := Lib.hid hi6
    clear hi6 k4 hf
    go_wp2_with fail
    refine bodyPost_ret (results_ct Try.results44 K4.out rfl Try.underlying55 rfl HI6.out) rfl ?_
    rw [HC.out]
    exact ⟨m, rfl, RNext.stay HH.out HF.out⟩
  have h0' : ((la : Int) == 0) = false := by simp; omega
  have h0b : ¬ (la : Int) = 0 := by omega
  by_cases hb0 : lb = 0
  · have hc : res = (s, 7) := by rw [HRES.out]; unfold joinS; rw [if_pos (.inr (List.eq_nil_of_length_eq_zero (by rw [← HLB.out, ← HNB.out]; exact hb0)))]
    subst hb0
    subst hc
    go_wp2_with (first | (with_reducible refine atLoad 55 rfl ?_; refine wpList_loadE rfl rfl rfl (load55 K2.out HZ6.out) ?_) | (with_reducible refine atStore 55 rfl ?_; refine stop_ ?_))
    refine go_on ?_
    refine wpList_storeB (P := Try.prog) (cs := C) rfl rfl K4.out rfl rfl (by rw [HZ6.out]; rfl) (by rw [HZ6.out]; exact info55) HC1.out ?_
    have k4 := K4.out.row C
    have hf := HF.out.setRow (g := w.heap.size + 1) (.inr (by omega)) C.toArray
    generalize World.setRow w2 _ _ = w9 at k4 hf ⊢
    clear HF K4 K2
    dsimp only [Act.put]
    have hi6 : (Try.prog.info? 55).map (fun i => i.size) = some C.length := by rw [HZ6.out]; exact info55
    have HF := Lib.hid hf
    have K4 := Lib.hid k4
    have HI6 := Lib.hid hi6
    clear hi6 k4 hf
    go_wp2_with fail
    refine bodyPost_ret (results_ct Try.results44 K4.out rfl Try.underlying55 rfl HI6.out) rfl ?_
    rw [HC.out]
    exact ⟨m, rfl, RNext.stay HH.out HF.out⟩
  have hb0' : ((lb : Int) == 0) = false := by simp; omega
  have hb0b : ¬ (lb : Int) = 0 := by omega
  have hne1 : ofL s a ≠ [] := fun e => h0 (by rw [HNA.out, HLA.out, e]; rfl)
  have hne2 : ofL s b ≠ [] := fun e => hb0 (by rw [HNB.out, HLB.out, e]; rfl)
  have hne : ¬ (ofL s a = [] ∨ ofL s b = []) := fun e => e.elim hne1 hne2
  by_cases hab : a = b
  · have hc : res = (s, 2) := by rw [HRES.out]; unfold joinS; rw [if_neg hne, if_pos hab]
    subst hab
    clear hne hne1 hne2
    subst hc
    go_wp2_with (first | (with_reducible refine atLoad 55 rfl ?_; refine wpList_loadE rfl rfl rfl (load55 K2.out HZ6.out) ?_) | (with_reducible refine atStore 55 rfl ?_; refine stop_ ?_))
    refine go_on ?_
    refine wpList_storeB (P := Try.prog) (cs := C) rfl rfl K4.out rfl rfl (by rw [HZ6.out]; rfl) (by rw [HZ6.out]; exact info55) HC1.out ?_
    have k4 := K4.out.row C
    have hf := HF.out.setRow (g := w.heap.size + 1) (.inr (by omega)) C.toArray
    generalize World.setRow w2 _ _ = w9 at k4 hf ⊢
    clear HF K4 K2
    dsimp only [Act.put]
    have hi6 : (Try.prog.info? 55).map (fun i => i.size) = some C.length := by rw [HZ6.out]; exact info55
    have HF := Lib.hid hf
    have K4 := Lib.hid k4
    have HI6 := Lib.hid hi6
    clear hi6 k4 hf
    go_wp2_with fail
    refine bodyPost_ret (results_ct Try.results44 K4.out rfl Try.underlying55 rfl HI6.out) rfl ?_
    rw [HC.out]
    exact ⟨m, rfl, RNext.stay HH.out HF.out⟩
  have hab' : (a == b) = false := by simpa using hab
  have hoth : otherB s a b = true → res = (s, 9) := fun e => by rw [HRES.out]; unfold joinS; rw [if_neg hne, if_neg hab, if_pos e]
  have hgood : otherB s a b = false → res = (joinedS s a b, 0) := fun e => by rw [HRES.out]; unfold joinS; rw [if_neg hne, if_neg hab, if_neg (by rw [e]; simp)]
  obtain ⟨x, rfl, hx⟩ := of_nat hne1 HH.out.inv
  obtain ⟨y, rfl, hy⟩ := of_nat hne2 HH.out.inv
  have hla0 : 0 < la := by omega
  have hlb0 : 0 < lb := by omega
  have hn0 : 0 < n := by have := HH.out.inv.opn; have := HN.out; omega
  have hxn : x < no := by rw [HNO.out]; exact hx
  have hyn : y < no := by rw [HNO.out]; exact hy
  have hra := HH.out.reps.ad (by have := HN.out; omega)
  have hoa := HH.out.of.ad (by have := HN.out; omega)
  have hpa := HH.out.opn.ad (by omega)
  have hc2 := HC2.out
  have hc3 := HC3.out
  have hc4 := HC4.out
  rw [hra] at hc2
  rw [hoa] at hc3
  rw [hpa] at hc4
  have hxy : x ≠ y := fun e => hab (by rw [e])
  clear hne hne1 hne2 h0 hb0 hx hy hra hoa hpa HC2 HC3 HC4
  have HOTH := Lib.hid hoth
  have HGOOD := Lib.hid hgood
  have HLA0 := Lib.hid hla0
  have HLB0 := Lib.hid hlb0
  have HN0 := Lib.hid hn0
  have HXN := Lib.hid hxn
  have HYN := Lib.hid hyn
  have HC2 := Lib.hid hc2
  have HC3 := Lib.hid hc3
  have HC4 := Lib.hid hc4
  have HXY := Lib.hid hxy
  clear hxy hc4 hc3 hc2 hyn hxn hn0 hlb0 hla0 hgood hoth
  obtain ⟨own1, hsl1, hown1⟩ := HIN1.out
  obtain ⟨ad1, b1, o1, cc1, e1, hr1⟩ := ints_at0 hsl1
  rw [← HNA.out] at e1 hr1
  cases e1
  have had1 := hr1.ad HLA0.out
  subst had1
  clear hsl1 hown1 own1 HIN1
  have HR1 := Lib.hid hr1
  clear hr1
  go_wp2_with fail
  clear h0' h0b hb0' hb0b hab hab'
  go_loopw [10] (fun s10 wr => ∃ j : Nat, s10 = .int .i64 j ∧ j ≤ la ∧ (∀ i, i < j → hasI s (y : Int) (s.rp (La.getD i 0)) 2 = false) ∧ Frm w2.heap.size [] w2 wr) (fun s10 _ => la - (intOf s10).toNat)
  case atStart => exact ⟨0, rfl, Nat.zero_le _, fun i hi => absurd hi (by omega), Frm.refl _ _ _⟩
  case round =>
    obtain ⟨j, rfl, hj, hnone, hfr⟩ := hrel
    by_cases hjl : j < la
    · have hjl' : (j : Int) < (la : Int) := by omega
      obtain ⟨y4, y5⟩ := wrapUp hjl (by have := HLAM.out; unfold maxLen; omega)
      have hms := meas_up hjl
      have hz := ofL_get (s := s) (i := (x : Int)) (j := j) (by rw [← HLA.out, ← HNA.out]; exact hjl)
      rw [← HLA.out] at hz
      have hyes : hasI s (y : Int) (s.rp (La.getD j 0)) 2 = true → res = (s, 9) := fun e => HOTH.out (other_yes2 (j := j) (by rw [← HLA.out, ← HNA.out]; exact hjl) (by rw [← HLA.out]; exact e))
      have hnx : hasI s (y : Int) (s.rp (La.getD j 0)) 2 = false → ∀ i, i < j + 1 → hasI s (y : Int) (s.rp (La.getD i 0)) 2 = false := fun e i hi => by
        rcases Nat.lt_or_ge i j with h | h
        · exact hnone i h
        · obtain rfl : i = j := by omega
          exact e
      have cz : ∀ V, Frm w2.heap.size [] w2 V → V.cell? ⟨b1, o1 + j, none⟩ = some (.int .i64 ((La.getD j 0 : Nat) : Int)) := fun V hV => (HR1.out.frm hV (Nat.le_refl _)).cellI hjl
      obtain ⟨z, hzz⟩ : ∃ z, z = La.getD j 0 := ⟨_, rfl⟩
      rw [← hzz] at hz hyes hnx
      simp only [← hzz] at cz
      have hzn : z < n := by rw [HN.out]; exact hz.1
      have hzn' : (z : Int) < (n : Int) := by omega
      obtain ⟨R, hR⟩ : ∃ R, R = repC (s.rp z) (m.wa z) (m.wc z) := ⟨_, rfl⟩
      obtain ⟨hit, hhit⟩ : ∃ c, c = hasI s (y : Int) (s.rp z) 2 := ⟨_, rfl⟩
      rw [← hhit] at hyes hnx
      have hin : ∀ V, Frm wr.heap.size [] wr V → Frm w.heap.size [] w V := fun V hV => HF.out.call (hfr.call hV hfr.size (by simp)) HF.out.size (by simp)
      have hca : ∀ V, Frm wr.heap.size [] wr V → Calls Try.prog 71 #[.agg C.toArray, .int .i64 (y : Int), .agg R.toArray, .int .i64 2] V fun e w' => e = .returned (.bool hit) ∧ Frm V.heap.size [] V w' := fun V hV => by
        rw [hR, HC.out, hhit]
        exact refAny_any (HH.out.still (hin V hV)) (y : Int) 2 (s.rp z) _ (m.wb z) (m.wo z) _ (HH.out.inv.rok hz.1) (((HH.out.wh z hz.1).frm (hin V hV) (Nat.le_refl _)))
      have hl24 : ∀ V, Frm wr.heap.size [] wr V → (loadVar 24 ⟨m.rb, m.ro + z * 7, none⟩).run Try.prog V = .ok (.agg R.toArray) V := fun V hV => by
        rw [hR]
        exact (HH.out.still (hin V hV)).reps.load (P := Try.prog) Try.underlying24 rfl hz.1 info24
      have hk2 : ∀ V, Frm wr.heap.size [] wr V → Blk V w.heap.size 55 C := fun V hV => (hfr.call hV hfr.size (by simp)).blk K2.out K2.out.lt (by simp)
      have hl55 : ∀ V, Frm wr.heap.size [] wr V → (loadVar 55 ⟨w.heap.size, 0, none⟩).run Try.prog V = .ok (.agg C.toArray) V := fun V hV => load55 (hk2 V hV) HZ6.out
      have hfx : ∀ V, Frm wr.heap.size [] wr V → V.cell? ⟨w.heap.size, 2, none⟩ = some (.slice (some ⟨m.rb, m.ro, none⟩) n m.rc) ∧ V.cell? ⟨b1, o1 + j, none⟩ = some (.int .i64 (z : Int)) := fun V hV => ⟨((hk2 V hV).cell 2).trans HC2.out, cz V (hfr.call hV hfr.size (by simp))⟩
      have k4 := hfr.blk K4.out K4.out.lt (by simp)
      have hfw := hin wr (Frm.refl _ _ _)
      have k2 := hk2 wr (Frm.refl _ _ _)
      clear hz hzz cz hhit hR hin hnone hk2
      have HMS := Lib.hid hms
      have HJL := Lib.hid hjl
      have HYES := Lib.hid hyes
      have HNX := Lib.hid hnx
      have HZN := Lib.hid hzn
      have HCA := Lib.hid hca
      have HL24 := Lib.hid hl24
      have HL55 := Lib.hid hl55
      have HFX := Lib.hid hfx
      have K4R := Lib.hid k4
      have K2R := Lib.hid k2
      have HFW := Lib.hid hfw
      have HFR := Lib.hid hfr
      clear hfr hfw k2 k4 hfx hl55 hl24 hca hzn hnx hyes hjl hms
      go_upto_region 9 with fail
      refine wp_region_leftL (fun V => Frm wr.heap.size [] wr V) 1000 (by kernel_rfl) ?_
      have hS : Frm wr.heap.size [] wr wr.drew := (Frm.refl _ _ wr).drew
      have HS := Lib.hid hS
      clear hS
      refine LeftL.take 0 rfl (by kernel_rfl) (fun _ _ d _ _ h => by cases d <;> exact h) (yields_loadE (ty := 55) rfl rfl rfl (HL55.out)) HS.out ?_; (intro K' hK'; go_simp; refine hK' _ ?_; clear hK' K')
      first | (refine LeftL.tkG (v := ?_) 1 rfl HS.out ?_ ?_; rotate_left; · intro V hV; obtain ⟨z1, z2⟩ := HFX.out V hV; clear hV; go_simp; rfl) | refine LeftL.tkN 1 rfl HS.out ?_
      (intro K h; go_simp; refine h _ ?_; clear h K)
      first | (refine LeftL.tkG (v := ?_) 2 rfl HS.out ?_ ?_; rotate_left; · intro V hV; obtain ⟨z1, z2⟩ := HFX.out V hV; clear hV; go_simp; rfl) | refine LeftL.tkN 2 rfl HS.out ?_
      (intro K h; go_simp; refine h _ ?_; clear h K)
      first | (refine LeftL.tkG (v := ?_) 3 rfl HS.out ?_ ?_; rotate_left; · intro V hV; obtain ⟨z1, z2⟩ := HFX.out V hV; clear hV; go_simp; rfl) | refine LeftL.tkN 3 rfl HS.out ?_
      (intro K h; go_simp; refine h _ ?_; clear h K)
      first | (refine LeftL.tkG (v := ?_) 4 rfl HS.out ?_ ?_; rotate_left; · intro V hV; obtain ⟨z1, z2⟩ := HFX.out V hV; clear hV; go_simp; rfl) | refine LeftL.tkN 4 rfl HS.out ?_
      (intro K h; go_simp; refine h _ ?_; clear h K)
      first | (refine LeftL.tkG (v := ?_) 5 rfl HS.out ?_ ?_; rotate_left; · intro V hV; obtain ⟨z1, z2⟩ := HFX.out V hV; clear hV; go_simp; rfl) | refine LeftL.tkN 5 rfl HS.out ?_
      (intro K h; go_simp; refine h _ ?_; clear h K)
      first | (refine LeftL.tkG (v := ?_) 6 rfl HS.out ?_ ?_; rotate_left; · intro V hV; obtain ⟨z1, z2⟩ := HFX.out V hV; clear hV; go_simp; rfl) | refine LeftL.tkN 6 rfl HS.out ?_
      (intro K h; go_simp; refine h _ ?_; clear h K)
      first | (refine LeftL.tkG (v := ?_) 7 rfl HS.out ?_ ?_; rotate_left; · intro V hV; obtain ⟨z1, z2⟩ := HFX.out V hV; clear hV; go_simp; rfl) | refine LeftL.tkN 7 rfl HS.out ?_
      (intro K h; go_simp; refine h _ ?_; clear h K)
      first | (refine LeftL.tkG (v := ?_) 8 rfl HS.out ?_ ?_; rotate_left; · intro V hV; obtain ⟨z1, z2⟩ := HFX.out V hV; clear hV; go_simp; rfl) | refine LeftL.tkN 8 rfl HS.out ?_
      (intro K h; go_simp; refine h _ ?_; clear h K)
      refine LeftL.take 9 rfl (by kernel_rfl) (fun _ _ d _ _ h => by cases d <;> exact h) (yields_loadE (ty := 24) rfl rfl rfl (HL24.out)) HS.out ?_; (intro K' hK'; go_simp; refine hK' _ ?_; clear hK' K')
      refine LeftL.one 10 rfl (by kernel_rfl) ?_
      go_wp2_with fail
      refine (HCA.out _ HS.out).mono ?_; rintro e w1 ⟨rfl, hf1⟩
      have hS1 := HS.out.call hf1 HS.out.size (by simp)
      clear hf1 HS
      have HS := Lib.hid hS1
      clear hS1
      go_wp2_with fail
      first | refine ⟨fun _ => HS.out, ?_⟩ | refine ⟨HS.out, ?_⟩
      refine LeftL.done (by kernel_rfl) ?_
      clear HL24 HL55 HFX HCA hjl' hzn' HZN
      cases hit
      · have hfr := HFR.out.call HS.out HFR.out.size (by simp)
        have hno := HNX.out rfl
        clear HNX HYES HFR HS HFW K2R K4R
        have HFR := Lib.hid hfr
        have HNONE := Lib.hid hno
        clear hno hfr
        go_wp2_with fail
        exact ⟨⟨j + 1, by simp [y4, y5], HJL.out, HNONE.out, HFR.out⟩, HMS.out⟩
      · have hc := HYES.out rfl
        have k2 := HS.out.blk K2R.out K2R.out.lt (by simp)
        have k4 := HS.out.blk K4R.out K4R.out.lt (by simp)
        have hf := HFW.out.call HS.out HFW.out.size (by simp)
        clear HNX HYES HFR HS HFW K2R K4R HF K2 K4 HR1 HIN2
        have HF := Lib.hid hf
        have K2 := Lib.hid k2
        have K4 := Lib.hid k4
        clear k4 k2 hf
        subst hc
        go_wp2_with (first | (with_reducible refine atLoad 55 rfl ?_; refine wpList_loadE rfl rfl rfl (load55 K2.out HZ6.out) ?_) | (with_reducible refine atStore 55 rfl ?_; refine stop_ ?_))
        refine go_on ?_
        refine wpList_storeB (P := Try.prog) (cs := C) rfl rfl K4.out rfl rfl (by rw [HZ6.out]; rfl) (by rw [HZ6.out]; exact info55) HC1.out ?_
        have k4 := K4.out.row C
        have hf := HF.out.setRow (g := w.heap.size + 1) (.inr (by omega)) C.toArray
        generalize World.setRow w1 _ _ = w9 at k4 hf ⊢
        clear HF K4 K2
        dsimp only [Act.put]
        have hi6 : (Try.prog.info? 55).map (fun i => i.size) = some C.length := by rw [HZ6.out]; exact info55
        have HF := Lib.hid hf
        have K4 := Lib.hid k4
        have HI6 := Lib.hid hi6
        clear hi6 k4 hf
        go_wp2_with fail
        refine bodyPost_ret (results_ct Try.results44 K4.out rfl Try.underlying55 rfl HI6.out) rfl ?_
        rw [HC.out]
        exact ⟨m, rfl, RNext.stay HH.out HF.out⟩
    have hjl' : ¬ (j : Int) < (la : Int) := by omega
    obtain rfl : j = la := by omega
    have hc := HGOOD.out (other_no2 fun i hi => by rw [← HLA.out] at hi ⊢; exact hnone i (by rw [HNA.out]; exact hi))
    have hin2 := HIN2.out.call hfr
    have k2 := hfr.blk K2.out K2.out.lt (by simp)
    have k4 := hfr.blk K4.out K4.out.lt (by simp)
    have hf := HF.out.call hfr HF.out.size (by simp)
    have hown2 : ∃ own2, Sl wr 3 1 (.slice ba lb bc) lb (intsC Lb) own2 ∧ ∀ b, own2 = some b → w1.heap.size ≤ b := by
      obtain ⟨own, hs, hg⟩ := hin2
      rw [← HNB.out] at hs
      exact ⟨own, hs, hg⟩
    obtain ⟨own2, hs2, hg2⟩ := hown2
    obtain ⟨b0, o0, c0, ev, hb0, _, _⟩ := hs2.pos HLB0.out
    obtain ⟨ad2, b2, o2, cc2, e2, hr2⟩ := ints_at0 hs2
    cases e2
    have had2 := hr2.ad HLB0.out
    subst had2
    have hbb : b2 = b0 := by cases ev; rfl
    have hb2n : w.heap.size + 1 < b2 := by have := hg2 b0 hb0; have := HNW.out; omega
    obtain ⟨V1, hV1⟩ : ∃ V, V = wr := ⟨_, rfl⟩
    rw [← hV1] at k2 k4 hf hr2 ⊢
    have hb2 : b2 < V1.heap.size := cell_lt (hr2.cellI HLB0.out)
    clear hV1 hs2 hin2 hg2 ev hb0 hbb hfr hnone K2 K4 HF HR1 HIN2 HOTH HGOOD
    have K2 := Lib.hid k2
    have K4 := Lib.hid k4
    have HF := Lib.hid hf
    have HR2 := Lib.hid hr2
    have HRES2 := Lib.hid hc
    have HB2 := Lib.hid hb2
    have HB2N := Lib.hid hb2n
    clear hb2n hb2 hc hr2 hf k4 k2
    go_upto_region 11 with fail
    have c3 : V1.cell? ⟨w.heap.size, 3, none⟩ = some (.slice (some ⟨m.ob, m.oo, none⟩) n m.oc) := (K2.out.cell 3).trans HC3.out
    have hlt2 : w.heap.size < V1.heap.size := K2.out.lt
    have hne2a : w.heap.size ≠ V1.heap.size := Nat.ne_of_lt hlt2
    go_wp2_with (at_builtin; refine hold ?_; intro qG hG)
    refine hG.1 ?_; clear hG qG
    have hf2 := HF.out.alloc HF.out.size (Obj.cells #[] 3)
    have hrw := (HH.out.still hf2).of
    refine wpList_append_sl _ rfl (.tmp 49) (.tmp 51) 42 rfl 3 i3 _ 1 8 Try.underlying42 HI3.out HZ30.out HZ31.out HZ32.out rfl _ 0 [] (some V1.heap.size) rfl (sl_buildEmpty V1 3 1) ⟨m.ob, m.oo, none⟩ n m.oc (intsC s.of) rfl (by rw [HN.out, intsC_len, Nat.mul_one]; exact HH.out.inv.len) (of_news hrw HH.out.inv.len) (intsC_one _) (by have := HNM.out; unfold maxLen; omega) (by have := HNM.out; omega) ?_
    intro v' V2 own' hs hf3 ho
    rw [List.nil_append, Nat.zero_add] at hs
    have hfr : Frm V1.heap.size [] V1 V2 := ((Frm.refl V1.heap.size [] V1).alloc (Nat.le_refl _) _).call hf3 (by simp) (fun x hx hm => by simp at hm; omega)
    obtain ⟨b', o', c', hv, hb, _, _⟩ := hs.pos HN0.out
    have hge : V1.heap.size ≤ b' := by
      rcases ho with h | ⟨g, h, hg⟩
      · rw [hb] at h; cases h; exact Nat.le_refl _
      · rw [hb] at h; cases h; simp at hg; omega
    subst hv
    have hlt4 := K4.out.lt
    have k2 := hfr.blk K2.out K2.out.lt (by simp)
    have k4 := hfr.blk K4.out K4.out.lt (by simp)
    have hf := HF.out.call hfr HF.out.size (by simp)
    have hr2 := HR2.out.frm hfr (Nat.le_refl _)
    have c3 : V2.cell? ⟨w.heap.size, 3, none⟩ = some (.slice (some ⟨m.ob, m.oo, none⟩) n m.oc) := (k2.cell 3).trans HC3.out
    have g3 := k2.free 3
    have hne2 : b' ≠ w.heap.size := by omega
    have hne4 : b' ≠ w.heap.size + 1 := by omega
    have hne5 : b2 ≠ b' := by have := HB2.out; omega
    have hb2 : ¬ b2 = w.heap.size := by have := HB2N.out; omega
    have hbw : w.heap.size ≤ b' := by omega
    clear ho hf3 hf2 hrw hge hfr HF K2 K4 hlt4 HR2 hlt2 hne2a HB2
    have HS := Lib.hid hs
    have HB := Lib.hid hb
    have K2 := Lib.hid k2
    have K4 := Lib.hid k4
    have HF := Lib.hid hf
    have HNE2 := Lib.hid hne2
    have HNE4 := Lib.hid hne4
    have HBW := Lib.hid hbw
    have HR2 := Lib.hid hr2
    have HNE5 := Lib.hid hne5
    have HB2 := Lib.hid hb2
    clear hb2 hne5 hr2 hbw hne4 hne2 hf k4 k2 hb hs
    go_upto_region 12 with fail
    clear c3 g3
    have k2 := K2.out.set 3 (.slice (some ⟨b', o', none⟩) n c')
    have k4 := K4.out.other ⟨w.heap.size, 3, none⟩ (by show w.heap.size ≠ w.heap.size + 1; omega) (.slice (some ⟨b', o', none⟩) n c')
    have hs := Sl.setCell HS.out ⟨w.heap.size, 3, none⟩ (.slice (some ⟨b', o', none⟩) n c') (fun q hq e => by have hb := HB.out; rw [hb] at hq; cases hq; exact HNE2.out e.symm)
    have hf := HF.out.setCell (p := ⟨w.heap.size, 3, none⟩) (.inr (Nat.le_refl _)) (.slice (some ⟨b', o', none⟩) n c')
    have hr2 := HR2.out.frmS ((Frm.refl V2.heap.size [w.heap.size] V2).setCell (p := ⟨w.heap.size, 3, none⟩) (.inl (by simp)) (.slice (some ⟨b', o', none⟩) n c')) (by have := HB2.out; simpa using this)
    generalize World.setCell V2 _ _ = V3 at k2 k4 hs hf hr2 ⊢
    obtain ⟨C3, hC3⟩ : ∃ c, c = C.set 3 (.slice (some ⟨b', o', none⟩) n c') := ⟨_, rfl⟩
    rw [← hC3] at k2
    have g3 : C3[3]? = some (.slice (some ⟨b', o', none⟩) n c') := by rw [hC3, List.getElem?_set, if_pos rfl, if_pos (by rw [HZ6.out]; omega)]
    have g4 : C3[4]? = some (.slice (some ⟨m.pb, m.po, none⟩) no m.pc) := by rw [hC3, List.getElem?_set, if_neg (by omega)]; exact HC4.out
    have hz36 : C3.length = 6 := by rw [hC3, List.length_set]; exact HZ6.out
    have hown : own' = some b' := HB.out
    subst hown
    clear HS K2 K4 HF HR2 HB
    have K2 := Lib.hid k2
    have K4 := Lib.hid k4
    have HS := Lib.hid hs
    have HF := Lib.hid hf
    have HR2 := Lib.hid hr2
    have HC3E := Lib.hid hC3
    have G3 := Lib.hid g3
    have G4 := Lib.hid g4
    have HZ36 := Lib.hid hz36
    clear hz36 g4 g3 hC3 hr2 hf hs k4 k2
    go_wp2_with fail
    go_loopw [11] (fun s11 wr => ∃ i : Nat, s11 = .int .i64 i ∧ i ≤ lb ∧ Frm V3.heap.size [b'] V3 wr ∧ Sl wr 3 1 (.slice (some ⟨b', o', none⟩) n c') n (intsC (setL x (Lb.take i) s.of)) (some b')) (fun s11 _ => lb - (intOf s11).toNat)
    case atStart => exact ⟨0, rfl, Nat.zero_le _, Frm.refl _ _ _, by simpa [setL] using HS.out⟩
    case round =>
      clear HS
      obtain ⟨i, rfl, hi, hfr, hsl⟩ := hrel
      have k2 := hfr.blk K2.out K2.out.lt (by simpa using Ne.symm HNE2.out)
      by_cases hil : i < lb
      · have hil' : (i : Int) < (lb : Int) := by omega
        obtain ⟨y4, y5⟩ := wrapUp hil (by have := HLBM.out; unfold maxLen; omega)
        have hms := meas_up hil
        have hil2 : i < Lb.length := by rw [← HNB.out]; exact hil
        have hz := ofL_get (s := s) (i := (y : Int)) (j := i) (by rw [← HLB.out]; exact hil2)
        rw [← HLB.out] at hz
        have cz := (HR2.out.frmS hfr (by simpa using HNE5.out)).cellI hil
        have hsn := setL_snoc x Lb s.of hil2
        obtain ⟨z, hzz⟩ : ∃ z, z = Lb.getD i 0 := ⟨_, rfl⟩
        have cz : wr.cell? ⟨b2, o2 + i, none⟩ = some (.int .i64 (z : Int)) := by rw [hzz]; exact cz
        rw [← hzz] at hz hsn
        have hzn : z < n := by rw [HN.out]; exact hz.1
        have hzn' : (z : Int) < (n : Int) := by omega
        have hfx : ∀ V, Frm wr.heap.size [] wr V → V.cell? ⟨w.heap.size, 3, none⟩ = some (.slice (some ⟨b', o', none⟩) n c') ∧ V.cell? ⟨b2, o2 + i, none⟩ = some (.int .i64 (z : Int)) := fun V hV => ⟨((hV.blk k2 k2.lt (by simp)).cell 3).trans G3.out, (hV.cell (cell_lt cz) (by simp)).trans cz⟩
        have hlz : z < (intsC (setL x (Lb.take i) s.of)).length := by rw [intsC_len, setL_len, HH.out.inv.len]; exact hz.1
        have hcx : ∀ V, Frm wr.heap.size [] wr V → Sl V 3 1 (.slice (some ⟨b', o', none⟩) n c') n (intsC (setL x (Lb.take i) s.of)) (some b') := fun V hV => hsl.frm hV hsl.lt (by simp)
        have hset : intsC (setL x (Lb.take (i + 1)) s.of) = (intsC (setL x (Lb.take i) s.of)).set z (.int .i64 (x : Int)) := by rw [hsn]; simp [intsC, List.map_set]
        clear hz hzz cz hsn k2 hsl hil2
        have HMS := Lib.hid hms
        have HIL := Lib.hid hil
        have HZN := Lib.hid hzn
        have HFX := Lib.hid hfx
        have HLZ := Lib.hid hlz
        have HCX := Lib.hid hcx
        have HSET := Lib.hid hset
        have HFR := Lib.hid hfr
        clear hfr hset hcx hlz hfx hzn hil hms
        go_upto_region 15 with fail
        refine wp_region_leftL (fun V => Frm wr.heap.size [] wr V) 8 (by kernel_rfl) ?_
        have hS : Frm wr.heap.size [] wr wr.drew := (Frm.refl _ _ wr).drew
        have HS := Lib.hid hS
        clear hS
        have hS := HS.out
        obtain ⟨VD, hVD⟩ : ∃ U, U = wr.drew := ⟨_, rfl⟩
        rw [← hVD] at hS ⊢
        clear hVD HS
        have HS := Lib.hid hS
        clear hS
        first | (refine LeftL.tkG (v := ?_) 0 rfl HS.out ?_ ?_; rotate_left; · intro V hV; obtain ⟨z1, z2⟩ := HFX.out V hV; clear hV; go_simp; rfl) | refine LeftL.tkN 0 rfl HS.out ?_
        (intro K h; go_simp; refine h _ ?_; clear h K)
        first | (refine LeftL.tkG (v := ?_) 1 rfl HS.out ?_ ?_; rotate_left; · intro V hV; obtain ⟨z1, z2⟩ := HFX.out V hV; clear hV; go_simp; rfl) | refine LeftL.tkN 1 rfl HS.out ?_
        (intro K h; go_simp; refine h _ ?_; clear h K)
        first | (refine LeftL.tkG (v := ?_) 2 rfl HS.out ?_ ?_; rotate_left; · intro V hV; obtain ⟨z1, z2⟩ := HFX.out V hV; clear hV; go_simp; rfl) | refine LeftL.tkN 2 rfl HS.out ?_
        (intro K h; go_simp; refine h _ ?_; clear h K)
        first | (refine LeftL.tkG (v := ?_) 3 rfl HS.out ?_ ?_; rotate_left; · intro V hV; obtain ⟨z1, z2⟩ := HFX.out V hV; clear hV; go_simp; rfl) | refine LeftL.tkN 3 rfl HS.out ?_
        (intro K h; go_simp; refine h _ ?_; clear h K)
        first | (refine LeftL.tkG (v := ?_) 4 rfl HS.out ?_ ?_; rotate_left; · intro V hV; obtain ⟨z1, z2⟩ := HFX.out V hV; clear hV; go_simp; rfl) | refine LeftL.tkN 4 rfl HS.out ?_
        (intro K h; go_simp; refine h _ ?_; clear h K)
        first | (refine LeftL.tkG (v := ?_) 5 rfl HS.out ?_ ?_; rotate_left; · intro V hV; obtain ⟨z1, z2⟩ := HFX.out V hV; clear hV; go_simp; rfl) | refine LeftL.tkN 5 rfl HS.out ?_
        (intro K h; go_simp; refine h _ ?_; clear h K)
        first | (refine LeftL.tkG (v := ?_) 6 rfl HS.out ?_ ?_; rotate_left; · intro V hV; obtain ⟨z1, z2⟩ := HFX.out V hV; clear hV; go_simp; rfl) | refine LeftL.tkN 6 rfl HS.out ?_
        (intro K h; go_simp; refine h _ ?_; clear h K)
        first | (refine LeftL.tkG (v := ?_) 7 rfl HS.out ?_ ?_; rotate_left; · intro V hV; obtain ⟨z1, z2⟩ := HFX.out V hV; clear hV; go_simp; rfl) | refine LeftL.tkN 7 rfl HS.out ?_
        (intro K h; go_simp; refine h _ ?_; clear h K)
        have hsl := HCX.out _ HS.out
        have cx := hsl.cell z HLZ.out
        rw [List.getElem?_eq_getElem HLZ.out] at cx
        have gx := hsl.free (o' + z)
        have hs1 := hsl.set1 z HLZ.out (.int .i64 (x : Int))
        rw [← HSET.out] at hs1
        have hfr1 := (HFR.out.call (HS.out.narrow (S' := [b']) (by simp)) HFR.out.size (fun _ _ hm => hm)).setCell (p := ⟨b', o' + z, none⟩) (.inl (by simp)) (.int .i64 (x : Int))
        clear hsl HCX HFX HFR HS hil' 
        have HS1 := Lib.hid hs1
        have HFR := Lib.hid hfr1
        clear hfr1 hs1
        refine LeftL.one 8 rfl (by kernel_rfl) ?_
        go_wp2_with fail
        refine ⟨fun h => absurd rfl h, ?_⟩
        have hs1 := HS1.out
        have hfr := HFR.out
        generalize World.setCell VD _ _ = V4 at hs1 hfr ⊢
        clear HS1 HFR
        have HS1 := Lib.hid hs1
        have HFR := Lib.hid hfr
        clear hfr hs1
        refine LeftL.done (by kernel_rfl) ?_
        clear cx gx
        go_wp2_with fail
        exact ⟨⟨i + 1, by simp [y4, y5], HIL.out, HFR.out, HS1.out⟩, HMS.out⟩
      have hil' : ¬ (i : Int) < (lb : Int) := by omega
      obtain rfl : i = lb := by omega
      have k4 := hfr.blk K4.out K4.out.lt (by simpa using Ne.symm HNE4.out)
      have hf := HF.out.call hfr HF.out.size (fun q hq hm => by simp at hm; have := HBW.out; omega)
      have hsz := hfr.size
      have hbl := hsl.lt b' rfl
      have hall : setL x (Lb.take i) s.of = s.of.map (joinF x (y : Int)) := by
        rw [HNB.out, List.take_length, HLB.out]
        exact setL_all s x (y : Int) HH.out.inv.len
      rw [hall] at hsl
      have hof := of_rw hsl
      obtain ⟨V5, hV5⟩ : ∃ V, V = wr := ⟨_, rfl⟩
      rw [← hV5] at k2 k4 hf hof hbl ⊢
      clear hV5 hsl hfr hall hsz K2 K4 HF HR2
      have K2 := Lib.hid k2
      have K4 := Lib.hid k4
      have HF := Lib.hid hf
      have HOF := Lib.hid hof
      have HBL := Lib.hid hbl
      clear hbl hof hf k4 k2
      go_upto_region 16 with fail
      have c4 : V5.cell? ⟨w.heap.size, 4, none⟩ = some (.slice (some ⟨m.pb, m.po, none⟩) no m.pc) := (K2.out.cell 4).trans G4.out
      have hlt2 : w.heap.size < V5.heap.size := K2.out.lt
      have hne2a : w.heap.size ≠ V5.heap.size := Nat.ne_of_lt hlt2
      go_wp2_with (at_builtin; refine hold ?_; intro qG hG)
      refine hG.1 ?_; clear hG qG
      have hf2 := HF.out.alloc HF.out.size (Obj.cells #[] 4)
      have hrw := (HH.out.still hf2).opn
      refine wpList_append_sl _ rfl (.tmp 68) (.tmp 70) 52 rfl 4 i4 _ 1 1 Try.underlying52 HI4.out HZ40.out HZ41.out HZ42.out rfl _ 0 [] (some V5.heap.size) rfl (sl_buildEmpty V5 4 1) ⟨m.pb, m.po, none⟩ no m.pc (boolsC s.opn) rfl (by rw [HNO.out]; simp [boolsC]) (opn_news hrw) (bools_one _) (by have := HNOM.out; unfold maxLen; omega) (by have := HNOM.out; omega) ?_
      intro v' V6 own' hs hf3 ho
      rw [List.nil_append, Nat.zero_add] at hs
      have hfr : Frm V5.heap.size [] V5 V6 := ((Frm.refl V5.heap.size [] V5).alloc (Nat.le_refl _) _).call hf3 (by simp) (fun x hx hm => by simp at hm; omega)
      obtain ⟨q', r', t', hv, hb, _, _⟩ := hs.pos (Nat.lt_of_le_of_lt (Nat.zero_le _) HXN.out)
      have hge : V5.heap.size ≤ q' := by
        rcases ho with h | ⟨g, h, hg⟩
        · rw [hb] at h; cases h; exact Nat.le_refl _
        · rw [hb] at h; cases h; simp at hg; omega
      subst hv
      have hlt4 := K4.out.lt
      have k2 := hfr.blk K2.out K2.out.lt (by simp)
      have k4 := hfr.blk K4.out K4.out.lt (by simp)
      have hf := HF.out.call hfr HF.out.size (by simp)
      have hof := HOF.out.frm hfr (Nat.le_refl _)
      have c4 : V6.cell? ⟨w.heap.size, 4, none⟩ = some (.slice (some ⟨m.pb, m.po, none⟩) no m.pc) := (k2.cell 4).trans G4.out
      have g4 := k2.free 4
      have hne2 : q' ≠ w.heap.size := by omega
      have hne4 : q' ≠ w.heap.size + 1 := by omega
      have hne5 : q' ≠ b' := by have := HBL.out; omega
      have hbw : w.heap.size ≤ q' := by omega
      clear ho hf3 hf2 hrw hge hfr HF K2 K4 hlt4 HOF hlt2 hne2a HBL
      have HS := Lib.hid hs
      have HQ := Lib.hid hb
      have K2 := Lib.hid k2
      have K4 := Lib.hid k4
      have HF := Lib.hid hf
      have HNQ2 := Lib.hid hne2
      have HNQ4 := Lib.hid hne4
      have HNQ5 := Lib.hid hne5
      have HQW := Lib.hid hbw
      have HOF := Lib.hid hof
      clear hof hbw hne5 hne4 hne2 hf k4 k2 hb hs
      go_upto_region 17 with fail
      clear c4 g4
      have k2 := K2.out.set 4 (.slice (some ⟨q', r', none⟩) no t')
      have k4 := K4.out.other ⟨w.heap.size, 4, none⟩ (by show w.heap.size ≠ w.heap.size + 1; omega) (.slice (some ⟨q', r', none⟩) no t')
      have hs := Sl.setCell HS.out ⟨w.heap.size, 4, none⟩ (.slice (some ⟨q', r', none⟩) no t') (fun q hq e => by have hb := HQ.out; rw [hb] at hq; cases hq; exact HNQ2.out e.symm)
      have hf := HF.out.setCell (p := ⟨w.heap.size, 4, none⟩) (.inr (Nat.le_refl _)) (.slice (some ⟨q', r', none⟩) no t')
      have hof := HOF.out.frmS ((Frm.refl V6.heap.size [w.heap.size] V6).setCell (p := ⟨w.heap.size, 4, none⟩) (.inl (by simp)) (.slice (some ⟨q', r', none⟩) no t')) (by simpa using HNE2.out)
      generalize World.setCell V6 _ _ = V7 at k2 k4 hs hf hof ⊢
      obtain ⟨C4, hC4⟩ : ∃ c, c = C3.set 4 (.slice (some ⟨q', r', none⟩) no t') := ⟨_, rfl⟩
      rw [← hC4] at k2
      have hz46 : C4.length = 6 := by rw [hC4, List.length_set]; exact HZ36.out
      have g4 : C4[4]? = some (.slice (some ⟨q', r', none⟩) no t') := by rw [hC4, List.getElem?_set, if_pos rfl, if_pos (by rw [HZ36.out]; omega)]
      have hlx : x < (boolsC s.opn).length := by have := HXN.out; have := HNO.out; simp [boolsC]; omega
      have hly : y < ((boolsC s.opn).set x (.bool true)).length := by have := HYN.out; have := HNO.out; simp [boolsC]; omega
      have hs2 := hs.set1 x hlx (.bool true)
      have hs3 := hs2.set1 y hly (.bool false)
      have cx := hs.cell x hlx
      rw [List.getElem?_eq_getElem hlx] at cx
      have gx := hs.free (r' + x)
      have cy := hs2.cell y hly
      rw [List.getElem?_eq_getElem hly] at cy
      have gy := hs2.free (r' + y)
      have c4 : V7.cell? ⟨w.heap.size, 4, none⟩ = some (.slice (some ⟨q', r', none⟩) no t') := (k2.cell 4).trans g4
      have k2' := k2.other ⟨q', r' + x, none⟩ HNQ2.out (.bool true)
      have k4' := k4.other ⟨q', r' + x, none⟩ HNQ4.out (.bool true)
      have hf' := hf.setCell (p := ⟨q', r' + x, none⟩) (.inr HQW.out) (.bool true)
      have hof' := hof.frmS ((Frm.refl V7.heap.size [q'] V7).setCell (p := ⟨q', r' + x, none⟩) (.inl (by simp)) (.bool true)) (by simpa using Ne.symm HNQ5.out)
      have hxn' : (x : Int) < (no : Int) := by have := HXN.out; omega
      have hyn' : (y : Int) < (no : Int) := by have := HYN.out; omega
      have c4' : (V7.setCell ⟨q', r' + x, none⟩ (.bool true)).cell? ⟨w.heap.size, 4, none⟩ = some (.slice (some ⟨q', r', none⟩) no t') := (k2'.cell 4).trans g4
      clear k2 k4 hf hof hs hs2 HS K2 K4 HF HOF HQ
      have K2 := Lib.hid k2'
      have K4 := Lib.hid k4'
      have HF := Lib.hid hf'
      have HOF := Lib.hid hof'
      have HS := Lib.hid hs3
      have CY := Lib.hid cy
      have GY := Lib.hid gy
      have C4N := Lib.hid c4'
      have G4N := Lib.hid g4
      have HC4E := Lib.hid hC4
      have HZ46 := Lib.hid hz46
      clear hz46 hC4 g4 c4' gy cy hs3 hof' hf' k4' k2'
      go_upto_region 18 with fail
      clear cx gx c4
      have k2 := K2.out
      have k4 := K4.out
      have hf := HF.out
      have hof := HOF.out
      have hs := HS.out
      have cy := CY.out
      have gy := GY.out
      have c4 := C4N.out
      generalize World.setCell V7 _ _ = V8 at k2 k4 hf hof hs cy gy c4 ⊢
      have k2' := k2.other ⟨q', r' + y, none⟩ HNQ2.out (.bool false)
      have k4' := k4.other ⟨q', r' + y, none⟩ HNQ4.out (.bool false)
      have hf' := hf.setCell (p := ⟨q', r' + y, none⟩) (.inr HQW.out) (.bool false)
      have hof' := hof.frmS ((Frm.refl V8.heap.size [q'] V8).setCell (p := ⟨q', r' + y, none⟩) (.inl (by simp)) (.bool false)) (by simpa using Ne.symm HNQ5.out)
      clear k2 k4 hf hof K2 K4 HF HOF HS CY GY C4N
      have K2 := Lib.hid k2'
      have K4 := Lib.hid k4'
      have HF := Lib.hid hf'
      have HOF := Lib.hid hof'
      have HS := Lib.hid hs
      clear hs hof' hf' k4' k2'
      go_upto_region 19 with fail
      clear cy gy c4 hxn' hyn'
      have k2 := K2.out
      have k4 := K4.out
      have hf := HF.out
      have hof := HOF.out
      have hs := HS.out
      generalize World.setCell V8 _ _ = V9 at k2 k4 hf hof hs ⊢
      have e : ((boolsC s.opn).set x (.bool true)).set y (.bool false) = boolsC ((s.opn.set x true).set y false) := by simp [boolsC, List.map_set]
      rw [e] at hs
      have hopn := opn_rw (l := (s.opn.set x true).set y false) (by rw [List.length_set, List.length_set]; exact HNO.out) hs
      obtain ⟨s', hs'⟩ : ∃ s', s' = joinedS s (x : Int) (y : Int) := ⟨_, rfl⟩
      have hc := HRES2.out
      rw [← hs'] at hc
      have hinv : BInv s' := by have := join_inv HH.out.inv (x : Int) (y : Int); rw [← HRES.out, hc] at this; exact this
      have hC4e : C4 = refC s' (m.joined b' o' c' q' r' t') := by
        rw [HC4E.out, HC3E.out, HC.out, HN.out, HNO.out, hs', joined_eq]
        simp [refC, RMem.joined]
      have hone : ∀ u ∈ C4, u.oneCell' = true := by rw [hC4e]; exact refC_one _ _
      subst hc
      clear hs e K2 K4 HF HOF HS
      have hofE : ∀ i, s'.o i = (s.of.map (joinF x (y : Int))).getD i 0 := fun i => by rw [hs', joined_eq]; rfl
      have hrE : s'.reps = s.reps := by rw [hs', joined_eq]
      have hpE : s'.prf = s.prf := by rw [hs', joined_eq]
      have hoE : s'.opn = (s.opn.set x true).set y false := by rw [hs', joined_eq]
      have K2 := Lib.hid k2
      have K4 := Lib.hid k4
      have HF := Lib.hid hf
      have HOF := Lib.hid hof
      have HOPN := Lib.hid hopn
      have HINV := Lib.hid hinv
      have HC4F := Lib.hid hC4e
      have HONE := Lib.hid hone
      have HOFE := Lib.hid hofE
      have HRE := Lib.hid hrE
      have HPE := Lib.hid hpE
      have HOE := Lib.hid hoE
      clear hoE hpE hrE hofE hone hC4e hinv hopn hof hf k4 k2
      clear hs'
      go_wp2_with (first | (with_reducible refine atLoad 55 rfl ?_; refine wpList_loadE rfl rfl rfl (load55 K2.out HZ46.out) ?_) | (with_reducible refine atStore 55 rfl ?_; refine stop_ ?_))
      refine go_on ?_
      refine wpList_storeB (P := Try.prog) (cs := C4) rfl rfl K4.out rfl rfl (by rw [HZ46.out]; rfl) (by rw [HZ46.out]; exact info55) HONE.out ?_
      have k4 := K4.out.row C4
      have hnx : RNext w (V9.setRow (w.heap.size + 1) C4.toArray) s s' m (m.joined b' o' c' q' r' t') (fun _ => True) := by
        have g := (Frm.refl V9.heap.size [w.heap.size + 1] V9).setRow (g := w.heap.size + 1) (.inl (by simp)) C4.toArray
        refine RNext.joined HH.out (HF.out.setRow (g := w.heap.size + 1) (.inr (by omega)) C4.toArray) HRE.out HPE.out ?_ ?_ HBW.out HQW.out HINV.out
        · have h1 := HOF.out.frmS g (by simpa using HNE4.out)
          rw [HN.out] at h1
          exact Rw.congr h1 fun i _ => by dsimp only; rw [HOFE.out]
        · have h1 := HOPN.out.frmS g (by simpa using HNQ4.out)
          rw [HOE.out]
          exact h1
      generalize World.setRow V9 _ _ = wN at k4 hnx ⊢
      clear K4 HF HOF HOPN K2
      dsimp only [Act.put]
      have HNX := Lib.hid hnx
      have K4 := Lib.hid k4
      clear k4 hnx
      go_wp2_with fail
      refine bodyPost_ret (results_ct Try.results44 K4.out rfl Try.underlying55 rfl (by rw [HZ46.out]; exact info55)) rfl ?_
      exact ⟨m.joined b' o' c' q' r' t', by rw [HC4F.out]; rfl, HNX.out⟩
end Go.Proofs.Ythgmdilfmeefiaa
