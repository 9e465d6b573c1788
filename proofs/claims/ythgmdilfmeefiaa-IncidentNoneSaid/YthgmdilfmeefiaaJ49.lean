/-
  The document: which incident gets a report.
-/
import Derived.Test.YthgmdilfmeefiaaJ48
namespace Go.Proofs.Ythgmdilfmeefiaa
set_option linter.all false
set_option linter.unusedSimpArgs false
set_option linter.unusedVariables false
open Go.RowKit

theorem selK_prefix (q : Nat → Bool) (k : Nat) : ∀ d, ∃ t, selK q (k + d) = selK q k ++ t
  | 0 => ⟨[], by simp⟩
  | d + 1 => by
    obtain ⟨t, ht⟩ := selK_prefix q k d
    rw [← Nat.add_assoc, selK_succ, ht]
    split
    · exact ⟨t ++ [k + d], by simp⟩
    · exact ⟨t, rfl⟩
set_option maxRecDepth 100000 in
set_option maxHeartbeats 16000000 in
theorem refPl_any {w : World} {s : BS} {m : RMem} (h : RefAt w s m) (r : Rep) (ad : Option Addr) (b o cap : Nat) (hok : repB r = true) (hr : RwP w ad b o r.wh.length r.wh) :
    Calls Try.prog 72 #[.agg (refC s m).toArray, .agg (repC r ad cap).toArray] w fun e w' => e = .returned (.tuple #[.int .i64 ((placeS s r).1 : Int), .int .i64 (placeS s r).2]) ∧ Frm w.heap.size [] w w' := by
  have hf0 := Try.func72
  have hca : ∀ V, Frm w.heap.size [] w V → ∀ (j : Nat) (is : Int), Calls Try.prog 71 #[.agg (refC s m).toArray, .int .i64 (j : Int), .agg (repC r ad cap).toArray, .int .i64 is] V fun e w' => e = .returned (.bool (hasI s (j : Int) r is)) ∧ Frm V.heap.size [] V w' := fun V hV j is =>
    refAny_any (h.still hV) (j : Int) is r ad b o cap hok (hr.frm hV (Nat.le_refl _))
  obtain ⟨n, hn⟩ : ∃ n, n = s.opn.length := ⟨_, rfl⟩
  have hnm : n ≤ 500 := by have := h.inv.opn; have := h.inv.max.1; omega
  obtain ⟨C, hC⟩ : ∃ E, E = refC s m := ⟨_, rfl⟩
  have hz6 : C.length = 6 := by rw [hC]; rfl
  have hc4 : C[4]? = some (.slice m.pa n m.pc) := by rw [hC, hn]; rfl
  obtain ⟨R, hR⟩ : ∃ E, E = repC r ad cap := ⟨_, rfl⟩
  have hz7 : R.length = 7 := by rw [hR]; rfl
  obtain ⟨hb, hhb⟩ : ∃ f : Nat → Int → Bool, f = fun (j : Nat) (is : Int) => hasI s (j : Int) r is := ⟨_, rfl⟩
  have hhbE : ∀ (j : Nat) (is : Int), hasI s (j : Int) r is = hb j is := fun j is => by rw [hhb]
  obtain ⟨op, hop⟩ : ∃ f : Nat → Bool, f = fun j => s.opn.getD j false := ⟨_, rfl⟩
  have hcell : ∀ V, Frm w.heap.size [] w V → ∀ j, j < n → V.cell? ⟨m.pb, m.po + j, none⟩ = some (.bool (op j)) := fun V hV j hj => by
    have := (h.opn.frm hV (Nat.le_refl _)).at_ j (by omega) 0 _ rfl
    rw [Nat.mul_one, Nat.add_zero] at this
    rw [this, hop]
  have had : 0 < n → m.pa = some ⟨m.pb, m.po, none⟩ := fun h0 => h.opn.ad (by omega)
  have hmb : ∀ j, mayB s r j = (op j && hb j 5 && !hb j 2) := fun j => by rw [hop, hhb]; rfl
  have hhit : ∀ j, j < n → hb j 1 = true → (∀ i, i < j → hb i 1 = false) → placeS s r = (j, 1) := fun j hj h1 h2 => by
    rw [hhb] at h1 h2
    exact place_hit (by omega) h1 h2
  have hmiss : (∀ i, i < n → hb i 1 = false) → placeS s r = match selK (mayB s r) n with
    | [] => (n, 4)
    | [i] => (i, 2)
    | _ => (n, 3) := fun h2 => by
    rw [hhb] at h2
    rw [hn]
    exact place_miss (fun i hi => h2 i (by omega))
  obtain ⟨res, hres⟩ : ∃ c, c = placeS s r := ⟨_, rfl⟩
  obtain ⟨mb, hmbe⟩ : ∃ c, c = mayB s r := ⟨_, rfl⟩
  obtain ⟨pa, hpa⟩ : ∃ c, c = m.pa := ⟨_, rfl⟩
  obtain ⟨pc, hpc⟩ : ∃ c, c = m.pc := ⟨_, rfl⟩
  rw [← hmbe] at hmb
  rw [← hpa] at had hc4
  rw [← hpc] at hc4
  simp only [← hres] at hhit hmiss ⊢
  rw [← hmbe] at hmiss
  simp only [hhbE] at hca
  rw [← hC, ← hR] at hca ⊢
  clear hres hmbe hhbE hop hhb hC hR hn hpa hpc h hok hr
  have HCA := Lib.hid hca
  have HNM := Lib.hid hnm
  have HCE := Lib.hid hcell
  have HMB := Lib.hid hmb
  have HHIT := Lib.hid hhit
  have HMISS := Lib.hid hmiss
  have HAD := Lib.hid had
  have HZ7 := Lib.hid hz7
  have HZ6 := Lib.hid hz6
  have HC4 := Lib.hid hc4
  clear hc4 hz6 hz7 had hmiss hhit hmb hcell hnm hca
  go_enter Try.func72, Try.ntmps72
  go_upto_region 1 with fail
  refine namedC ?_; intro W hW
  have k0 : Blk W w.heap.size 55 C := by rw [hW]; refine Blk.alloc' ?_; exact Blk.new w 55 C
  have k1 : Blk W (w.heap.size + 1) 24 R := by rw [hW]; exact Blk.new' _ 24 R (by simp)
  have hf : Frm w.heap.size [] w W := by rw [hW]; repeat (first | with_reducible exact Frm.refl _ _ _ | with_reducible refine Frm.drewN ?_ | with_reducible refine Frm.drew ?_ | ((with_reducible refine Frm.setCell' ?_ ?_); · first | (left; simp; done) | (right; simp; done) | (right; simp; omega)) | ((with_reducible refine Frm.alloc' ?_ ?_); · first | exact Nat.le_refl _ | (simp; done) | (simp; omega)))
  clear hW hf0
  have hl24 : ∀ V, Frm W.heap.size [] W V → (loadVar 24 ⟨w.heap.size + 1, 0, none⟩).run Try.prog V = .ok (.agg R.toArray) V := fun V hV => load24 (hV.blk k1 k1.lt (by simp)) HZ7.out
  have hl55 : ∀ V, Frm W.heap.size [] W V → (loadVar 55 ⟨w.heap.size, 0, none⟩).run Try.prog V = .ok (.agg C.toArray) V := fun V hV => load55 (hV.blk k0 k0.lt (by simp)) HZ6.out
  have hc4 : ∀ V, Frm W.heap.size [] W V → V.cell? ⟨w.heap.size, 4, none⟩ = some (.slice pa n pc) := fun V hV => ((hV.blk k0 k0.lt (by simp)).cell 4).trans HC4.out
  have hend : ∀ V, Frm W.heap.size [] W V → Frm w.heap.size [] w V := fun V hV => hf.call hV hf.size (by simp)
  have hca : ∀ V, Frm W.heap.size [] W V → ∀ (j : Nat) (is : Int), Calls Try.prog 71 #[.agg C.toArray, .int .i64 (j : Int), .agg R.toArray, .int .i64 is] V fun e w' => e = .returned (.bool (hb j is)) ∧ Frm V.heap.size [] V w' := fun V hV => HCA.out V (hend V hV)
  have hcell : ∀ V, Frm W.heap.size [] W V → ∀ j, j < n → V.cell? ⟨m.pb, m.po + j, none⟩ = some (.bool (op j)) := fun V hV => HCE.out V (hend V hV)
  have c4 := hc4 W (Frm.refl _ _ _)
  clear hf k0 k1 HCA HCE
  have HL24 := Lib.hid hl24
  have HL55 := Lib.hid hl55
  have HCC := Lib.hid hc4
  have HEND := Lib.hid hend
  have HCA := Lib.hid hca
  have HCE := Lib.hid hcell
  clear hcell hca hend hc4 hl55 hl24
  go_wp2_with fail
  clear c4
  go_loopw [6] (fun s6 wr => ∃ j : Nat, s6 = .int .i64 j ∧ j ≤ n ∧ (∀ i, i < j → hb i 1 = false) ∧ Frm W.heap.size [] W wr) (fun s6 _ => n - (intOf s6).toNat)
  case atStart => exact ⟨0, rfl, Nat.zero_le _, fun i hi => absurd hi (by omega), Frm.refl _ _ _⟩
  case round =>
    obtain ⟨j, rfl, hj, hno, hf⟩ := hrel
    have c4 := HCC.out wr hf
    by_cases hjl : j < n
    · have hjl' : (j : Int) < (n : Int) := by omega
      obtain ⟨y4, y5⟩ := wrapUp hjl (by have := HNM.out; unfold maxLen; omega)
      have hms := meas_up hjl
      have hca1 := HCA.out wr hf j 1
      cases h1 : hb j 1
      · rw [h1] at hca1
        have hno2 : ∀ i, i < j + 1 → hb i 1 = false := fun i hi => by
          rcases Nat.lt_or_ge i j with e | e
          · exact hno i e
          · obtain rfl : i = j := by omega
            exact h1
        clear hno
        have HF := Lib.hid hf
        have HCA1 := Lib.hid hca1
        have HNO := Lib.hid hno2
        have HMS := Lib.hid hms
        have HJL := Lib.hid hjl
        have H1 := Lib.hid h1
        clear h1 hjl hms hno2 hca1 hf
        go_wp2_with (first | (with_reducible refine atLoad 55 rfl ?_; first | refine wpList_loadE rfl rfl rfl (HL55.out _ HF.out) ?_ | refine wpList_loadGE rfl rfl rfl (HL55.out _ HF.out) ?_) | (with_reducible refine atLoad 24 rfl ?_; first | refine wpList_loadE rfl rfl rfl (HL24.out _ HF.out) ?_ | refine wpList_loadGE rfl rfl rfl (HL24.out _ HF.out) ?_))
        refine HCA1.out.mono ?_; rintro e w1 ⟨rfl, hf1⟩
        have hf := HF.out.call hf1 HF.out.size (by simp)
        clear hf1 HF HCA1 c4
        have HF := Lib.hid hf
        clear hf
        go_wp2_with fail
        exact ⟨⟨j + 1, by simp [y4, y5], HJL.out, HNO.out, HF.out⟩, by have := HMS.out; simpa [intOf, y4, y5] using this⟩
      · rw [h1] at hca1
        have hres := HHIT.out j hjl h1 hno
        clear hno
        have HF := Lib.hid hf
        have HCA1 := Lib.hid hca1
        have HRES := Lib.hid hres
        have HMS := Lib.hid hms
        have H1 := Lib.hid h1
        clear h1 hms hres hca1 hf
        go_wp2_with (first | (with_reducible refine atLoad 55 rfl ?_; first | refine wpList_loadE rfl rfl rfl (HL55.out _ HF.out) ?_ | refine wpList_loadGE rfl rfl rfl (HL55.out _ HF.out) ?_) | (with_reducible refine atLoad 24 rfl ?_; first | refine wpList_loadE rfl rfl rfl (HL24.out _ HF.out) ?_ | refine wpList_loadGE rfl rfl rfl (HL24.out _ HF.out) ?_))
        refine HCA1.out.mono ?_; rintro e w1 ⟨rfl, hf1⟩
        have hf := HEND.out _ (HF.out.call hf1 HF.out.size (by simp))
        clear hf1 HF HCA1 c4
        have HF := Lib.hid hf
        clear hf
        go_wp2_with fail
        refine bodyPost_ret (v := .tuple #[.int .i64 (j : Int), .int .i64 1]) (by simp [results, Try.results72, go_sem]) rfl ?_
        exact ⟨by rw [HRES.out], HF.out⟩
    have hjl' : ¬ (j : Int) < (n : Int) := by omega
    obtain rfl : j = n := by omega
    have hmi := HMISS.out hno
    clear hno HHIT HMISS
    obtain ⟨W2, hW2⟩ : ∃ V, V = wr := ⟨_, rfl⟩
    rw [← hW2] at hf c4 ⊢
    clear hW2
    have HF := Lib.hid hf
    have HMI := Lib.hid hmi
    clear hmi hf
    go_wp2_with fail
    clear c4
    go_loopw [7, 8] (fun s7 s8 wr => ∃ i : Nat, s8 = .int .i64 i ∧ i ≤ j ∧ ((selK mb i = [] ∧ s7 = .int .i64 (-1)) ∨ ∃ x : Nat, selK mb i = [x] ∧ s7 = .int .i64 x) ∧ Frm W.heap.size [] W wr) (fun _ s8 _ => j - (intOf s8).toNat)
    case atStart => exact ⟨0, rfl, Nat.zero_le _, .inl ⟨rfl, rfl⟩, HF.out⟩
    case round =>
      clear HF
      obtain ⟨i, rfl, hi, hst, hf⟩ := hrel
      have c4 := HCC.out wr hf
      by_cases hil : i < j
      rotate_left
      · have hil' : ¬ (i : Int) < (j : Int) := by omega
        obtain rfl : i = j := by omega
        have hff := HEND.out _ hf
        have hmi := HMI.out
        rcases hst with ⟨h1, rfl⟩ | ⟨x, h1, rfl⟩
        · rw [h1] at hmi
          dsimp only at hmi
          have HFF := Lib.hid hff
          have HMI2 := Lib.hid hmi
          have H1 := Lib.hid h1
          clear h1 hmi hff
          go_wp2_with fail
          refine bodyPost_ret (v := .tuple #[.int .i64 (i : Int), .int .i64 4]) (by simp [results, Try.results72, go_sem]) rfl ?_
          exact ⟨by rw [HMI2.out], HFF.out⟩
        · rw [h1] at hmi
          dsimp only at hmi
          have hx0 : (0 : Int) ≤ (x : Int) := by omega
          have HFF := Lib.hid hff
          have HMI2 := Lib.hid hmi
          have H1 := Lib.hid h1
          clear h1 hmi hff
          go_wp2_with fail
          refine bodyPost_ret (v := .tuple #[.int .i64 (x : Int), .int .i64 2]) (by simp [results, Try.results72, go_sem]) rfl ?_
          exact ⟨by rw [HMI2.out], HFF.out⟩
      have hil' : (i : Int) < (j : Int) := by omega
      have had := HAD.out (by omega)
      subst had
      obtain ⟨y4, y5⟩ := wrapUp hil (by have := HNM.out; unfold maxLen; omega)
      have hms := meas_up hil
      have hsu := selK_succ mb i
      have hmbi := HMB.out i
      have cx := HCE.out wr hf i hil
      have hpf := selK_prefix mb (i + 1) (j - (i + 1))
      rw [show i + 1 + (j - (i + 1)) = j by omega] at hpf
      obtain ⟨opi, hopi⟩ : ∃ c, c = op i := ⟨_, rfl⟩
      rw [← hopi] at cx hmbi
      have hskip : (opi && hb i 5 && !hb i 2) = false → selK mb (i + 1) = selK mb i := fun e => by rw [hsu, if_neg (by rw [hmbi, e]; simp)]
      have hadd : (opi && hb i 5 && !hb i 2) = true → selK mb (i + 1) = selK mb i ++ [i] := fun e => by rw [hsu, if_pos (by rw [hmbi, e])]
      clear hopi hsu hmbi
      rcases hst with ⟨hst, rfl⟩ | ⟨x, hst, rfl⟩
      · cases opi
        · have hs2 := hskip (by simp)
          have HF := Lib.hid hf
          have HS2 := Lib.hid hs2
          have HMS := Lib.hid hms
          have HIL := Lib.hid hil
          have HST := Lib.hid hst
          clear hst hil hms hs2 hf
          go_wp2_with fail
          exact ⟨⟨i + 1, by simp [y4, y5], HIL.out, .inl ⟨by rw [HS2.out]; exact HST.out, rfl⟩, HF.out⟩, by have := HMS.out; simpa [intOf, y4, y5] using this⟩
        have hc5 := HCA.out wr hf i 5
        cases h5 : hb i 5
        · rw [h5] at hc5
          have hs2 := hskip (by rw [h5]; simp)
          have HF := Lib.hid hf
          have HS2 := Lib.hid hs2
          have HMS := Lib.hid hms
          have HIL := Lib.hid hil
          have HST := Lib.hid hst
          have HC5 := Lib.hid hc5
          have H5 := Lib.hid h5
          clear h5 hc5 hst hil hms hs2 hf
          go_wp2_with (first | (with_reducible refine atLoad 55 rfl ?_; first | refine wpList_loadE rfl rfl rfl (HL55.out _ HF.out) ?_ | refine wpList_loadGE rfl rfl rfl (HL55.out _ HF.out) ?_) | (with_reducible refine atLoad 24 rfl ?_; first | refine wpList_loadE rfl rfl rfl (HL24.out _ HF.out) ?_ | refine wpList_loadGE rfl rfl rfl (HL24.out _ HF.out) ?_))
          refine HC5.out.mono ?_; rintro e w1 ⟨rfl, hf1⟩
          have hf := HF.out.call hf1 HF.out.size (by simp)
          clear hf1 HF HC5
          have HF := Lib.hid hf
          clear hf
          go_wp2_with fail
          exact ⟨⟨i + 1, by simp [y4, y5], HIL.out, .inl ⟨by rw [HS2.out]; exact HST.out, rfl⟩, HF.out⟩, by have := HMS.out; simpa [intOf, y4, y5] using this⟩
        rw [h5] at hc5
        have HF := Lib.hid hf
        have HMS := Lib.hid hms
        have HIL := Lib.hid hil
        have HST := Lib.hid hst
        have HC5 := Lib.hid hc5
        have HSKIP := Lib.hid hskip
        have HADD := Lib.hid hadd
        have HPF := Lib.hid hpf
        clear hpf hadd hskip hc5 hst hil hms hf
        go_wp2_with (first | (with_reducible refine atLoad 55 rfl ?_; first | refine wpList_loadE rfl rfl rfl (HL55.out _ HF.out) ?_ | refine wpList_loadGE rfl rfl rfl (HL55.out _ HF.out) ?_) | (with_reducible refine atLoad 24 rfl ?_; first | refine wpList_loadE rfl rfl rfl (HL24.out _ HF.out) ?_ | refine wpList_loadGE rfl rfl rfl (HL24.out _ HF.out) ?_))
        refine HC5.out.mono ?_; rintro e w1 ⟨rfl, hf1⟩
        have hf := HF.out.call hf1 HF.out.size (by simp)
        have hc2 := HCA.out w1 hf i 2
        clear hf1 HF HC5
        cases h2 : hb i 2
        rotate_left
        · rw [h2] at hc2
          have hs2 := HSKIP.out (by rw [h2]; simp)
          have HF := Lib.hid hf
          have HS2 := Lib.hid hs2
          have HC2 := Lib.hid hc2
          have H2 := Lib.hid h2
          clear h2 hc2 hs2 hf
          go_wp2_with (first | (with_reducible refine atLoad 55 rfl ?_; first | refine wpList_loadE rfl rfl rfl (HL55.out _ HF.out) ?_ | refine wpList_loadGE rfl rfl rfl (HL55.out _ HF.out) ?_) | (with_reducible refine atLoad 24 rfl ?_; first | refine wpList_loadE rfl rfl rfl (HL24.out _ HF.out) ?_ | refine wpList_loadGE rfl rfl rfl (HL24.out _ HF.out) ?_))
          refine HC2.out.mono ?_; rintro e w2 ⟨rfl, hf1⟩
          have hf := HF.out.call hf1 HF.out.size (by simp)
          clear hf1 HF HC2
          have HF := Lib.hid hf
          clear hf
          go_wp2_with fail
          exact ⟨⟨i + 1, by simp [y4, y5], HIL.out, .inl ⟨by rw [HS2.out]; exact HST.out, rfl⟩, HF.out⟩, by have := HMS.out; simpa [intOf, y4, y5] using this⟩
        rw [h2] at hc2
        have hs2 := HADD.out (by rw [h2, h5]; rfl)
        have HF := Lib.hid hf
        have HS2 := Lib.hid hs2
        have HC2 := Lib.hid hc2
        have H2 := Lib.hid h2
        clear h2 hc2 hs2 hf
        go_wp2_with (first | (with_reducible refine atLoad 55 rfl ?_; first | refine wpList_loadE rfl rfl rfl (HL55.out _ HF.out) ?_ | refine wpList_loadGE rfl rfl rfl (HL55.out _ HF.out) ?_) | (with_reducible refine atLoad 24 rfl ?_; first | refine wpList_loadE rfl rfl rfl (HL24.out _ HF.out) ?_ | refine wpList_loadGE rfl rfl rfl (HL24.out _ HF.out) ?_))
        refine HC2.out.mono ?_; rintro e w2 ⟨rfl, hf1⟩
        have hf := HF.out.call hf1 HF.out.size (by simp)
        clear hf1 HF HC2
        have c4 := HCC.out w2 hf
        have HF := Lib.hid hf
        clear hf
        go_wp2_with fail
        exact ⟨⟨i + 1, by simp [y4, y5], HIL.out, .inr ⟨i, by rw [HS2.out, HST.out]; rfl, rfl⟩, HF.out⟩, by have := HMS.out; simpa [intOf, y4, y5] using this⟩
      · have hx0 : (0 : Int) ≤ (x : Int) := by omega
        clear hx0
        cases opi
        · have hs2 := hskip (by simp)
          have HF := Lib.hid hf
          have HS2 := Lib.hid hs2
          have HMS := Lib.hid hms
          have HIL := Lib.hid hil
          have HST := Lib.hid hst
          clear hst hil hms hs2 hf
          go_wp2_with fail
          exact ⟨⟨i + 1, by simp [y4, y5], HIL.out, .inr ⟨x, by rw [HS2.out]; exact HST.out, rfl⟩, HF.out⟩, by have := HMS.out; simpa [intOf, y4, y5] using this⟩
        have hc5 := HCA.out wr hf i 5
        cases h5 : hb i 5
        · rw [h5] at hc5
          have hs2 := hskip (by rw [h5]; simp)
          have HF := Lib.hid hf
          have HS2 := Lib.hid hs2
          have HMS := Lib.hid hms
          have HIL := Lib.hid hil
          have HST := Lib.hid hst
          have HC5 := Lib.hid hc5
          have H5 := Lib.hid h5
          clear h5 hc5 hst hil hms hs2 hf
          go_wp2_with (first | (with_reducible refine atLoad 55 rfl ?_; first | refine wpList_loadE rfl rfl rfl (HL55.out _ HF.out) ?_ | refine wpList_loadGE rfl rfl rfl (HL55.out _ HF.out) ?_) | (with_reducible refine atLoad 24 rfl ?_; first | refine wpList_loadE rfl rfl rfl (HL24.out _ HF.out) ?_ | refine wpList_loadGE rfl rfl rfl (HL24.out _ HF.out) ?_))
          refine HC5.out.mono ?_; rintro e w1 ⟨rfl, hf1⟩
          have hf := HF.out.call hf1 HF.out.size (by simp)
          clear hf1 HF HC5
          have HF := Lib.hid hf
          clear hf
          go_wp2_with fail
          exact ⟨⟨i + 1, by simp [y4, y5], HIL.out, .inr ⟨x, by rw [HS2.out]; exact HST.out, rfl⟩, HF.out⟩, by have := HMS.out; simpa [intOf, y4, y5] using this⟩
        rw [h5] at hc5
        have HF := Lib.hid hf
        have HMS := Lib.hid hms
        have HIL := Lib.hid hil
        have HST := Lib.hid hst
        have HC5 := Lib.hid hc5
        have HSKIP := Lib.hid hskip
        have HADD := Lib.hid hadd
        have HPF := Lib.hid hpf
        clear hpf hadd hskip hc5 hst hil hms hf
        go_wp2_with (first | (with_reducible refine atLoad 55 rfl ?_; first | refine wpList_loadE rfl rfl rfl (HL55.out _ HF.out) ?_ | refine wpList_loadGE rfl rfl rfl (HL55.out _ HF.out) ?_) | (with_reducible refine atLoad 24 rfl ?_; first | refine wpList_loadE rfl rfl rfl (HL24.out _ HF.out) ?_ | refine wpList_loadGE rfl rfl rfl (HL24.out _ HF.out) ?_))
        refine HC5.out.mono ?_; rintro e w1 ⟨rfl, hf1⟩
        have hf := HF.out.call hf1 HF.out.size (by simp)
        have hc2 := HCA.out w1 hf i 2
        clear hf1 HF HC5
        cases h2 : hb i 2
        rotate_left
        · rw [h2] at hc2
          have hs2 := HSKIP.out (by rw [h2]; simp)
          have HF := Lib.hid hf
          have HS2 := Lib.hid hs2
          have HC2 := Lib.hid hc2
          have H2 := Lib.hid h2
          clear h2 hc2 hs2 hf
          go_wp2_with (first | (with_reducible refine atLoad 55 rfl ?_; first | refine wpList_loadE rfl rfl rfl (HL55.out _ HF.out) ?_ | refine wpList_loadGE rfl rfl rfl (HL55.out _ HF.out) ?_) | (with_reducible refine atLoad 24 rfl ?_; first | refine wpList_loadE rfl rfl rfl (HL24.out _ HF.out) ?_ | refine wpList_loadGE rfl rfl rfl (HL24.out _ HF.out) ?_))
          refine HC2.out.mono ?_; rintro e w2 ⟨rfl, hf1⟩
          have hf := HF.out.call hf1 HF.out.size (by simp)
          clear hf1 HF HC2
          have HF := Lib.hid hf
          clear hf
          go_wp2_with fail
          exact ⟨⟨i + 1, by simp [y4, y5], HIL.out, .inr ⟨x, by rw [HS2.out]; exact HST.out, rfl⟩, HF.out⟩, by have := HMS.out; simpa [intOf, y4, y5] using this⟩
        rw [h2] at hc2
        have hs2 := HADD.out (by rw [h2, h5]; rfl)
        have HF := Lib.hid hf
        have HS2 := Lib.hid hs2
        have HC2 := Lib.hid hc2
        have H2 := Lib.hid h2
        clear h2 hc2 hs2 hf
        go_wp2_with (first | (with_reducible refine atLoad 55 rfl ?_; first | refine wpList_loadE rfl rfl rfl (HL55.out _ HF.out) ?_ | refine wpList_loadGE rfl rfl rfl (HL55.out _ HF.out) ?_) | (with_reducible refine atLoad 24 rfl ?_; first | refine wpList_loadE rfl rfl rfl (HL24.out _ HF.out) ?_ | refine wpList_loadGE rfl rfl rfl (HL24.out _ HF.out) ?_))
        refine HC2.out.mono ?_; rintro e w2 ⟨rfl, hf1⟩
        have hf := HF.out.call hf1 HF.out.size (by simp)
        clear hf1 HF HC2
        have c4 := HCC.out w2 hf
        have HF := Lib.hid hf
        clear hf
        have hmi := HMI.out
        obtain ⟨tl, htl⟩ := HPF.out
        rw [HS2.out, HST.out] at htl
        rw [htl] at hmi
        have hmi : res = (j, 3) := hmi
        have hx0 : (0 : Int) ≤ (x : Int) := by omega
        have hff := HEND.out _ HF.out
        clear htl
        have HMI2 := Lib.hid hmi
        have HFF := Lib.hid hff
        clear hff hmi
        go_wp2_with fail
        refine bodyPost_ret (v := .tuple #[.int .i64 (j : Int), .int .i64 3]) (by simp [results, Try.results72, go_sem]) rfl ?_
        exact ⟨by rw [HMI2.out], HFF.out⟩
end Go.Proofs.Ythgmdilfmeefiaa
