/-
  The document: Reports, Missing, Opened; two lists of numbers.
-/
import Derived.Test.YthgmdilfmeefiaaJ50
namespace Go.Proofs.Ythgmdilfmeefiaa
set_option linter.all false
set_option linter.unusedSimpArgs false
set_option linter.unusedVariables false
open Go.RowKit

set_option maxRecDepth 100000 in
set_option maxHeartbeats 8000000 in
theorem refReports_any {w : World} {s : BS} {m : RMem} (h : RefAt w s m) (i : Int) :
    Calls Try.prog 48 #[.agg (refC s m).toArray, .int .i64 i] w fun e w' => ∃ v, e = .returned (.tuple #[v, .int .i64 (reportsS s i).2]) ∧ Ints w w' v (reportsS s i).1 ∧ Frm w.heap.size [] w w' := by
  have hf0 := Try.func48
  have hof : ∀ V, Frm w.heap.size [] w V → Calls Try.prog 70 #[.agg (refC s m).toArray, .int .i64 i] V fun e w' => ∃ v, e = .returned v ∧ Ints V w' v (ofL s i) ∧ Frm V.heap.size [] V w' := fun V hV => refOf_any (h.still hV) i
  obtain ⟨n, hn⟩ : ∃ n, n = s.opn.length := ⟨_, rfl⟩
  have hnm : n ≤ 500 := by have := h.inv.opn; have := h.inv.max.1; omega
  have hrr : reportsS s i = if inB i 0 ((n : Int) - 1) = true then (ofL s i, 0) else ([], 7) := by rw [hn]; rfl
  obtain ⟨L, hL⟩ : ∃ L, L = ofL s i := ⟨_, rfl⟩
  obtain ⟨res, hres⟩ : ∃ c, c = reportsS s i := ⟨_, rfl⟩
  obtain ⟨C, hC⟩ : ∃ C, C = refC s m := ⟨_, rfl⟩
  have hz6 : C.length = 6 := by rw [hC]; rfl
  have hc4 : C[4]? = some (.slice m.pa n m.pc) := by rw [hC, hn]; rfl
  simp only [← hC, ← hL] at hof
  rw [← hL, ← hres] at hrr
  rw [← hres, ← hC]
  have e1 : IntKind.i64.wrap ((n : Int) - 1) = (n : Int) - 1 := IntWalk.i64_in _ (by omega)
  have e2 : wrap64 ((n : Int) - 1) = (n : Int) - 1 := IntWalk.wrap64_in _ (by omega)
  clear hres hL hn hC h
  have HOF := Lib.hid hof
  have HRR := Lib.hid hrr
  have HZ6 := Lib.hid hz6
  have HC4 := Lib.hid hc4
  have HNM := Lib.hid hnm
  clear hnm hc4 hz6 hrr hof
  go_enter Try.func48, Try.ntmps48
  go_upto_region 1 with fail
  refine namedC ?_; intro W hW
  have k0 : Blk W w.heap.size 55 C := by rw [hW]; exact Blk.new w 55 C
  have hf : Frm w.heap.size [] w W := by rw [hW]; repeat (first | with_reducible exact Frm.refl _ _ _ | with_reducible refine Frm.drewN ?_ | with_reducible refine Frm.drew ?_ | ((with_reducible refine Frm.setCell' ?_ ?_); · first | (left; simp; done) | (right; simp; done) | (right; simp; omega)) | ((with_reducible refine Frm.alloc' ?_ ?_); · first | exact Nat.le_refl _ | (simp; done) | (simp; omega)))
  clear hW hf0
  have c4 : W.cell? ⟨w.heap.size, 4, none⟩ = some (.slice m.pa n m.pc) := (k0.cell 4).trans HC4.out
  have HF := Lib.hid hf
  have K0 := Lib.hid k0
  clear k0 hf
  cases hi : inB i 0 ((n : Int) - 1)
  · have HI := Lib.hid hi
    clear hi
    go_wp2_with (go_at_call 41; (try simp only [e1, e2]); refine (refIn_any _ _ _ _).mono ?_; rintro e w' ⟨rfl, rfl⟩; rw [HI.out])
    refine bodyPost_ret (v := .tuple #[.slice none 0 0, .int .i64 7]) (by simp [results, Try.results48, go_sem]) rfl ?_
    rw [HRR.out, HI.out]
    exact ⟨_, rfl, Ints.nil _ _, HF.out⟩
  have HI := Lib.hid hi
  clear hi
  go_wp2_with (first | (go_at_call 41; (try simp only [e1, e2]); refine (refIn_any _ _ _ _).mono ?_; rintro e w' ⟨rfl, rfl⟩; rw [HI.out]) | (with_reducible refine atLoad 55 rfl ?_; refine wpList_loadE rfl rfl rfl (load55 K0.out HZ6.out) ?_))
  refine (HOF.out W HF.out).mono ?_; rintro e w1 ⟨v, rfl, hin, hf1⟩
  have hin := hin.base HF.out.size
  have hf := HF.out.call hf1 HF.out.size (by simp)
  clear hf1 HF
  have HIN := Lib.hid hin
  have HF := Lib.hid hf
  clear hf hin
  go_wp2_with fail
  refine bodyPost_ret (v := .tuple #[v, .int .i64 0]) (by simp [results, Try.results48, go_sem]) rfl ?_
  rw [HRR.out, HI.out]
  exact ⟨_, rfl, HIN.out, HF.out⟩
set_option maxRecDepth 100000 in
set_option maxHeartbeats 8000000 in
theorem refOpened_any {w : World} {s : BS} {m : RMem} (h : RefAt w s m) :
    Calls Try.prog 47 #[.agg (refC s m).toArray] w fun e w' => ∃ v, e = .returned v ∧ Ints w w' v (openL s) ∧ Frm w.heap.size [] w w' := by
  have hf0 := Try.func47
  obtain ⟨i0, hi0, hz0, hz1, hz2⟩ := info_parts3 info3x
  obtain ⟨n, hn⟩ : ∃ n, n = s.opn.length := ⟨_, rfl⟩
  have hnm : n ≤ 500 := by have := h.inv.opn; have := h.inv.max.1; omega
  obtain ⟨q, hq⟩ : ∃ f : Nat → Bool, f = fun j => s.opn.getD j false := ⟨_, rfl⟩
  have hcell : ∀ V, Frm w.heap.size [] w V → ∀ j, j < n → V.cell? ⟨m.pb, m.po + j, none⟩ = some (.bool (q j)) := fun V hV j hj => by
    have := (h.opn.frm hV (Nat.le_refl _)).at_ j (by omega) 0 _ rfl
    rw [Nat.mul_one, Nat.add_zero] at this
    rw [this, hq]
  have had : 0 < n → m.pa = some ⟨m.pb, m.po, none⟩ := fun h0 => h.opn.ad (by omega)
  have hol : openL s = selK q n := by rw [hq, hn]; rfl
  obtain ⟨C, hC⟩ : ∃ C, C = refC s m := ⟨_, rfl⟩
  have hc4 : C[4]? = some (.slice m.pa n m.pc) := by rw [hC, hn]; rfl
  obtain ⟨oa, hoa⟩ : ∃ c, c = m.pa := ⟨_, rfl⟩
  obtain ⟨oc, hoc⟩ : ∃ c, c = m.pc := ⟨_, rfl⟩
  rw [← hoa, ← hoc] at hc4
  rw [← hoa] at had
  rw [hol, ← hC]
  clear hol hq hn hC hoa hoc h
  have HI0 := Lib.hid hi0
  have HZ0 := Lib.hid hz0
  have HZ1 := Lib.hid hz1
  have HZ2 := Lib.hid hz2
  have HNM := Lib.hid hnm
  have HCE := Lib.hid hcell
  have HAD := Lib.hid had
  have HC4 := Lib.hid hc4
  clear hc4 had hcell hnm hz2 hz1 hz0 hi0
  go_enter Try.func47, Try.ntmps47
  go_upto_region 1 with fail
  refine namedC ?_; intro W hW
  have k0 : Blk W w.heap.size 55 C := by rw [hW]; exact Blk.new w 55 C
  have hf : Frm w.heap.size [] w W := by rw [hW]; repeat (first | with_reducible exact Frm.refl _ _ _ | with_reducible refine Frm.drewN ?_ | with_reducible refine Frm.drew ?_ | ((with_reducible refine Frm.setCell' ?_ ?_); · first | (left; simp; done) | (right; simp; done) | (right; simp; omega)) | ((with_reducible refine Frm.alloc' ?_ ?_); · first | exact Nat.le_refl _ | (simp; done) | (simp; omega)))
  clear hW hf0
  have c4 : W.cell? ⟨w.heap.size, 4, none⟩ = some (.slice oa n oc) := (k0.cell 4).trans HC4.out
  have hend : ∀ V, Frm W.heap.size [] W V → Frm w.heap.size [] w V := fun V hV => hf.call hV hf.size (by simp)
  clear k0 hf
  have C4 := Lib.hid c4
  have HEND := Lib.hid hend
  clear hend c4
  go_wp2_with fail
  go_loopw [3, 4] (fun s3 s4 wr => ∃ j : Nat, s4 = .int .i64 j ∧ j ≤ n ∧ Ints W wr s3 (selK q j) ∧ Frm W.heap.size [] W wr) (fun _ s4 _ => n - (intOf s4).toNat)
  case atStart => exact ⟨0, rfl, Nat.zero_le _, Ints.nil W W, Frm.refl _ _ _⟩
  case round =>
    obtain ⟨j, rfl, hj, hin, hf⟩ := hrel
    obtain ⟨ai, ci, rfl⟩ := hin.form
    have c4 := (hf.cell (cell_lt C4.out) (by simp)).trans C4.out
    by_cases hjl : j < n
    rotate_left
    · have hjl' : ¬ (j : Int) < (n : Int) := by omega
      obtain rfl : j = n := by omega
      have hsz := (HEND.out _ (Frm.refl _ _ _)).size
      have hin := hin.base hsz
      have HIN := Lib.hid hin
      have HF := Lib.hid hf
      clear hf hin
      go_wp2_with fail
      go_ret
      exact ⟨_, rfl, HIN.out, HEND.out _ HF.out⟩
    have hjl' : (j : Int) < (n : Int) := by omega
    have had := HAD.out (by omega)
    subst had
    obtain ⟨y4, y5⟩ := wrapUp hjl (by have := HNM.out; unfold maxLen; omega)
    have hms := meas_up hjl
    have cx := HCE.out wr (HEND.out _ hf) j hjl
    have hsu := selK_succ q j
    cases hqj : q j
    · rw [hqj] at cx
      have hs2 : selK q (j + 1) = selK q j := by rw [hsu, if_neg (by rw [hqj]; simp)]
      clear hsu
      have HIN := Lib.hid hin
      have HF := Lib.hid hf
      have HS2 := Lib.hid hs2
      have HMS := Lib.hid hms
      have HJL := Lib.hid hjl
      have HQJ := Lib.hid hqj
      clear hqj hjl hms hs2 hf hin
      go_wp2_with fail
      exact ⟨⟨j + 1, by simp [y4, y5], HJL.out, by rw [HS2.out]; exact HIN.out, HF.out⟩, by have := HMS.out; simpa [intOf, y4, y5] using this⟩
    rw [hqj] at cx
    have hs2 : selK q (j + 1) = selK q j ++ [j] := by rw [hsu, if_pos hqj]
    have hlk := selK_len q j
    obtain ⟨own, hsl, hown⟩ := hin
    clear hsu
    have HSL := Lib.hid hsl
    have HOWN := Lib.hid hown
    have HF := Lib.hid hf
    have HS2 := Lib.hid hs2
    have HMS := Lib.hid hms
    have HJL := Lib.hid hjl
    have HLK := Lib.hid hlk
    have HQJ := Lib.hid hqj
    clear hqj hlk hjl hms hs2 hf hown hsl
    go_wp2_with (at_builtin; refine hold ?_; intro qG hG)
    refine hG.1 ?_; clear hG qG
    refine wpList_append_sl _ rfl (.tmp 17) (.tmp 19) 42 rfl 3 i0 _ 1 8 Try.underlying42 HI0.out HZ0.out HZ1.out HZ2.out rfl _ _ (intsC (selK q j)) own rfl (HSL.out.alloc _) ⟨wr.heap.size, 0, none⟩ 1 1 [.int .i64 (j : Int)] rfl rfl (news_alloc _ [.int .i64 (j : Int)] _) (by simp [Value.oneCell']) (by have := HLK.out; have := HNM.out; have := HJL.out; unfold maxLen; omega) (by have := HLK.out; have := HNM.out; have := HJL.out; omega) ?_
    intro v3 w3 own3 hs3 hf3 ho3
    have hf := (HF.out.alloc HF.out.size (.cells [Value.int .i64 (j : Int)].toArray 3)).call hf3 (by have := HF.out.size; simp; omega) (fun x hx hm => by have := HOWN.out x (by simpa using hm); omega)
    have hin : Ints W w3 v3 (selK q (j + 1)) := by
      rw [HS2.out]
      refine ⟨own3, by rw [intsC_snoc, List.length_append]; exact hs3, fun b hb => ?_⟩
      rcases ho3 with h | ⟨q, h, hq⟩
      · exact HOWN.out b (by rw [← h]; exact hb)
      · rw [hb] at h; cases h; have := HF.out.size; simp at hq; omega
    clear hs3 hf3 ho3 HSL HF HOWN c4 cx
    have HIN := Lib.hid hin
    have HF := Lib.hid hf
    clear hf hin
    go_wp2_with fail
    exact ⟨⟨j + 1, by simp [y4, y5], HJL.out, HIN.out, HF.out⟩, by have := HMS.out; simpa [intOf, y4, y5] using this⟩
/-- The members of a list for which something holds, among its first ones. -/
def selL (f : Nat → Bool) (l : List Nat) (j : Nat) : List Nat := (l.take j).filter f
theorem selL_succ (f : Nat → Bool) (l : List Nat) {j : Nat} (hj : j < l.length) : selL f l (j + 1) = if f (l.getD j 0) = true then selL f l j ++ [l.getD j 0] else selL f l j := by
  unfold selL
  rw [List.take_succ, List.filter_append, List.getElem?_eq_getElem hj]
  have e : l.getD j 0 = l[j] := by simp [List.getD_eq_getElem?_getD, List.getElem?_eq_getElem hj]
  rw [e]
  by_cases h : f l[j] = true
  · rw [if_pos h]; simp [h]
  · rw [if_neg h]; simp [h]
theorem selL_all (f : Nat → Bool) (l : List Nat) : selL f l l.length = l.filter f := by unfold selL; rw [List.take_length]
theorem selL_len (f : Nat → Bool) (l : List Nat) (j : Nat) : (selL f l j).length ≤ l.length := by
  unfold selL
  have h1 := List.length_filter_le f (l.take j)
  have h2 : (l.take j).length ≤ l.length := by rw [List.length_take]; exact Nat.min_le_right _ _
  exact Nat.le_trans h1 h2
theorem miss_of (s : BS) (i : Int) : missL s i = (ofL s i).filter fun j => !settledB s j := by
  unfold missL ofL
  rw [List.filter_filter]
  congr 1
  funext j
  rw [Bool.and_comm]
theorem of_len {s : BS} (h : BInv s) (i : Int) : (ofL s i).length ≤ 500 := by
  unfold ofL
  have h1 := List.length_filter_le (fun j => decide ((s.o j : Int) = i)) (List.range s.reps.length)
  have h2 := h.max.1
  simp only [List.length_range] at h1
  omega
set_option maxRecDepth 100000 in
set_option maxHeartbeats 16000000 in
theorem refMissing_any {w : World} {s : BS} {m : RMem} (h : RefAt w s m) (i : Int) :
    Calls Try.prog 49 #[.agg (refC s m).toArray, .int .i64 i] w fun e w' => ∃ v, e = .returned (.tuple #[v, .int .i64 (missingS s i).2]) ∧ Ints w w' v (missingS s i).1 ∧ Frm w.heap.size [] w w' := by
  have hf0 := Try.func49
  obtain ⟨i0, hi0, hz0, hz1, hz2⟩ := info_parts3 info3x
  have hof : ∀ V, Frm w.heap.size [] w V → Calls Try.prog 70 #[.agg (refC s m).toArray, .int .i64 i] V fun e w' => ∃ v, e = .returned v ∧ Ints V w' v (ofL s i) ∧ Frm V.heap.size [] V w' := fun V hV => refOf_any (h.still hV) i
  have hst : ∀ V, Frm w.heap.size [] w V → ∀ y, y < s.reps.length → Calls Try.prog 73 #[.agg (refC s m).toArray, .int .i64 (y : Int)] V fun e w' => e = .returned (.bool (settledB s y)) ∧ Frm V.heap.size [] V w' := fun V hV y hy => refSettled_any (h.still hV) y hy
  have hmem : ∀ y ∈ ofL s i, y < s.reps.length := fun y hy => (of_mem.1 hy).1
  have hl5 := of_len h.inv i
  obtain ⟨n, hn⟩ : ∃ n, n = s.opn.length := ⟨_, rfl⟩
  have hnm : n ≤ 500 := by have := h.inv.opn; have := h.inv.max.1; omega
  obtain ⟨f, hfe⟩ : ∃ f : Nat → Bool, f = fun j => !settledB s j := ⟨_, rfl⟩
  have hst2 : ∀ V, Frm w.heap.size [] w V → ∀ y, y < s.reps.length → Calls Try.prog 73 #[.agg (refC s m).toArray, .int .i64 (y : Int)] V fun e w' => e = .returned (.bool (!f y)) ∧ Frm V.heap.size [] V w' := fun V hV y hy => by
    have e : (!f y) = settledB s y := by rw [hfe]; simp
    rw [e]
    exact hst V hV y hy
  have hrr : missingS s i = if inB i 0 ((n : Int) - 1) = true then ((ofL s i).filter f, 0) else ([], 7) := by rw [hn, hfe, ← miss_of]; rfl
  obtain ⟨L, hL⟩ : ∃ L, L = ofL s i := ⟨_, rfl⟩
  obtain ⟨res, hres⟩ : ∃ c, c = missingS s i := ⟨_, rfl⟩
  obtain ⟨C, hC⟩ : ∃ C, C = refC s m := ⟨_, rfl⟩
  obtain ⟨N, hN⟩ : ∃ c, c = s.reps.length := ⟨_, rfl⟩
  have hz6 : C.length = 6 := by rw [hC]; rfl
  have hc4 : C[4]? = some (.slice m.pa n m.pc) := by rw [hC, hn]; rfl
  simp only [← hC, ← hL] at hof
  simp only [← hC, ← hN] at hst2
  rw [← hL, ← hN] at hmem
  rw [← hL] at hl5
  rw [← hL, ← hres] at hrr
  rw [← hres, ← hC]
  have e1 : IntKind.i64.wrap ((n : Int) - 1) = (n : Int) - 1 := IntWalk.i64_in _ (by omega)
  have e2 : wrap64 ((n : Int) - 1) = (n : Int) - 1 := IntWalk.wrap64_in _ (by omega)
  clear hres hL hn hC h hfe hst hN
  have HOF := Lib.hid hof
  have HST := Lib.hid hst2
  have HMEM := Lib.hid hmem
  have HL5 := Lib.hid hl5
  have HRR := Lib.hid hrr
  have HZ6 := Lib.hid hz6
  have HC4 := Lib.hid hc4
  have HNM := Lib.hid hnm
  have HI0 := Lib.hid hi0
  have HZ0 := Lib.hid hz0
  have HZ1 := Lib.hid hz1
  have HZ2 := Lib.hid hz2
  clear hz2 hz1 hz0 hi0 hnm hc4 hz6 hrr hl5 hmem hst2 hof
  go_enter Try.func49, Try.ntmps49
  go_upto_region 1 with fail
  refine namedC ?_; intro W hW
  have k0 : Blk W w.heap.size 55 C := by rw [hW]; exact Blk.new w 55 C
  have hf : Frm w.heap.size [] w W := by rw [hW]; repeat (first | with_reducible exact Frm.refl _ _ _ | with_reducible refine Frm.drewN ?_ | with_reducible refine Frm.drew ?_ | ((with_reducible refine Frm.setCell' ?_ ?_); · first | (left; simp; done) | (right; simp; done) | (right; simp; omega)) | ((with_reducible refine Frm.alloc' ?_ ?_); · first | exact Nat.le_refl _ | (simp; done) | (simp; omega)))
  clear hW hf0
  have c4 : W.cell? ⟨w.heap.size, 4, none⟩ = some (.slice m.pa n m.pc) := (k0.cell 4).trans HC4.out
  have HF := Lib.hid hf
  have K0 := Lib.hid k0
  clear k0 hf
  cases hi : inB i 0 ((n : Int) - 1)
  · have HI := Lib.hid hi
    clear hi
    go_wp2_with (go_at_call 41; (try simp only [e1, e2]); refine (refIn_any _ _ _ _).mono ?_; rintro e w' ⟨rfl, rfl⟩; rw [HI.out])
    refine bodyPost_ret (v := .tuple #[.slice none 0 0, .int .i64 7]) (by simp [results, Try.results49, go_sem]) rfl ?_
    rw [HRR.out, HI.out]
    exact ⟨_, rfl, Ints.nil _ _, HF.out⟩
  have HI := Lib.hid hi
  clear hi
  go_wp2_with (first | (go_at_call 41; (try simp only [e1, e2]); refine (refIn_any _ _ _ _).mono ?_; rintro e w' ⟨rfl, rfl⟩; rw [HI.out]) | (with_reducible refine atLoad 55 rfl ?_; refine wpList_loadE rfl rfl rfl (load55 K0.out HZ6.out) ?_))
  refine (HOF.out W HF.out).mono ?_; rintro e U1 ⟨v, rfl, hin, hf1⟩
  obtain ⟨la, lc, rfl⟩ := hin.form
  have hf := HF.out.call hf1 HF.out.size (by simp)
  have k0 := hf1.blk K0.out K0.out.lt (by simp)
  obtain ⟨M, hM⟩ : ∃ c, c = L.length := ⟨_, rfl⟩
  have hml : M ≤ 500 := by rw [hM]; exact HL5.out
  rw [← hM]
  have hl55 : ∀ V, Frm U1.heap.size [] U1 V → (loadVar 55 ⟨w.heap.size, 0, none⟩).run Try.prog V = .ok (.agg C.toArray) V := fun V hV => load55 (hV.blk k0 k0.lt (by simp)) HZ6.out
  have hend : ∀ V, Frm U1.heap.size [] U1 V → Frm w.heap.size [] w V := fun V hV => hf.call hV hf.size (by simp)
  clear hf1 HF K0 k0 hf e1 e2 c4
  have HIN := Lib.hid hin
  have HM := Lib.hid hM
  have HML := Lib.hid hml
  have HL55 := Lib.hid hl55
  have HEND := Lib.hid hend
  clear hend hl55 hml hM hin
  go_wp2_with fail
  go_loopw [7, 8] (fun s7 s8 wr => ∃ j : Nat, s8 = .int .i64 j ∧ j ≤ M ∧ Ints U1 wr s7 (selL f L j) ∧ Frm U1.heap.size [] U1 wr) (fun _ s8 _ => M - (intOf s8).toNat)
  case atStart => exact ⟨0, rfl, Nat.zero_le _, Ints.nil U1 U1, Frm.refl _ _ _⟩
  case round =>
    obtain ⟨j, rfl, hj, hout, hf⟩ := hrel
    obtain ⟨oa, oc, rfl⟩ := hout.form
    by_cases hjl : j < M
    rotate_left
    · have hjl' : ¬ (j : Int) < (M : Int) := by omega
      obtain rfl : j = M := by omega
      have hff := HEND.out _ hf
      have hb := hout.base (HEND.out _ (Frm.refl _ _ _)).size
      obtain ⟨K, hK⟩ : ∃ c, c = (selL f L j).length := ⟨_, rfl⟩
      rw [← hK]
      have hb2 : Ints w wr (.slice oa K oc) (L.filter f) := by rw [hK]; rw [HM.out, selL_all] at hb ⊢; exact hb
      clear hb hout hK
      have HFF := Lib.hid hff
      have HB := Lib.hid hb2
      clear hb2 hff
      go_wp2_with fail
      refine bodyPost_ret (v := .tuple #[.slice oa K oc, .int .i64 0]) (by simp [results, Try.results49, go_sem]) rfl ?_
      rw [HRR.out, HI.out]
      exact ⟨_, rfl, HB.out, HFF.out⟩
    have hjl' : (j : Int) < (M : Int) := by omega
    obtain ⟨y4, y5⟩ := wrapUp hjl (Nat.le_trans HML.out (by decide))
    have hms := meas_up hjl
    have hin := HIN.out.call hf
    obtain ⟨own0, hsl0, _⟩ := hin
    obtain ⟨ad1, b1, o1, cc1, e3, hr1⟩ := ints_at0 hsl0
    cases e3
    have hjL : j < L.length := by rw [← HM.out]; exact hjl
    have had1 := hr1.ad (Nat.lt_of_le_of_lt (Nat.zero_le _) hjL)
    subst had1
    have hjm : L.getD j 0 ∈ L := by
      rw [List.getD_eq_getElem?_getD, List.getElem?_eq_getElem hjL]
      exact List.getElem_mem _
    have cw : ∀ V, Frm wr.heap.size [] wr V → V.cell? ⟨b1, o1 + j, none⟩ = some (.int .i64 ((L.getD j 0 : Nat) : Int)) := fun V hV => (hr1.frm hV (Nat.le_refl _)).cellI hjL
    have hsu := selL_succ f L hjL
    obtain ⟨y, hy⟩ : ∃ y, y = L.getD j 0 := ⟨_, rfl⟩
    rw [← hy] at hjm hsu
    simp only [← hy] at cw
    have hyn := HMEM.out y hjm
    have hfx : ∀ V, Frm wr.heap.size [] wr V → V.cell? ⟨b1, o1 + j, none⟩ = some (.int .i64 (y : Int)) ∧ True := fun V hV => ⟨cw V hV, trivial⟩
    have hla : ∀ V, Frm wr.heap.size [] wr V → (loadVar 55 ⟨w.heap.size, 0, none⟩).run Try.prog V = .ok (.agg C.toArray) V := fun V hV => HL55.out V (hf.call hV hf.size (by simp))
    have hca : ∀ V, Frm wr.heap.size [] wr V → Calls Try.prog 73 #[.agg C.toArray, .int .i64 (y : Int)] V fun e w' => e = .returned (.bool (!f y)) ∧ Frm V.heap.size [] V w' := fun V hV => HST.out V (HEND.out V (hf.call hV hf.size (by simp))) y hyn
    obtain ⟨fy, hfy⟩ : ∃ c, c = f y := ⟨_, rfl⟩
    simp only [← hfy] at hca hsu
    have hlk := selL_len f L j
    clear hsl0 hr1 hy hjm hfy
    have HF := Lib.hid hf
    have HMS := Lib.hid hms
    have HJL := Lib.hid hjl
    have HSU := Lib.hid hsu
    have HFX := Lib.hid hfx
    have HLA := Lib.hid hla
    have HCA := Lib.hid hca
    have HOUT := Lib.hid hout
    have CW := Lib.hid cw
    have HLK := Lib.hid hlk
    clear hlk cw hout hca hla hfx hsu hjl hms hf
    go_upto_region 8 with fail
    refine wp_region_leftL (fun V => Frm wr.heap.size [] wr V) 1000 (by kernel_rfl) ?_
    have hS : Frm wr.heap.size [] wr wr.drew := (Frm.refl _ _ wr).drew
    have HS := Lib.hid hS
    clear hS
    refine LeftL.take 0 rfl (by kernel_rfl) (fun _ _ d _ _ h => by cases d <;> exact h) (yields_loadE (ty := 55) rfl rfl rfl (HLA.out)) HS.out ?_; (intro K' hK'; go_simp; refine hK' _ ?_; clear hK' K')
    first | (refine LeftL.tkG (v := ?_) 1 rfl HS.out ?_ ?_; rotate_left; · intro V hV; obtain ⟨z1, z2⟩ := HFX.out V hV; clear hV; go_simp; rfl) | refine LeftL.tkN 1 rfl HS.out ?_
    (intro K h; go_simp; refine h _ ?_; clear h K)
    first | (refine LeftL.tkG (v := ?_) 2 rfl HS.out ?_ ?_; rotate_left; · intro V hV; obtain ⟨z1, z2⟩ := HFX.out V hV; clear hV; go_simp; rfl) | refine LeftL.tkN 2 rfl HS.out ?_
    (intro K h; go_simp; refine h _ ?_; clear h K)
    first | (refine LeftL.tkG (v := ?_) 3 rfl HS.out ?_ ?_; rotate_left; · intro V hV; obtain ⟨z1, z2⟩ := HFX.out V hV; clear hV; go_simp; rfl) | refine LeftL.tkN 3 rfl HS.out ?_
    (intro K h; go_simp; refine h _ ?_; clear h K)
    first | (refine LeftL.tkG (v := ?_) 4 rfl HS.out ?_ ?_; rotate_left; · intro V hV; obtain ⟨z1, z2⟩ := HFX.out V hV; clear hV; go_simp; rfl) | refine LeftL.tkN 4 rfl HS.out ?_
    (intro K h; go_simp; refine h _ ?_; clear h K)
    refine LeftL.one 5 rfl (by kernel_rfl) ?_
    go_wp2_with fail
    refine (HCA.out _ HS.out).mono ?_; rintro e w1 ⟨rfl, hf1⟩
    have hS1 := HS.out.call hf1 HS.out.size (by simp)
    clear hf1 HS
    have HS := Lib.hid hS1
    clear hS1
    go_wp2_with fail
    first | refine ⟨fun _ => HS.out, ?_⟩ | refine ⟨HS.out, ?_⟩
    refine LeftL.one 6 rfl (by kernel_rfl) ?_
    go_wp2_with fail
    first | refine ⟨fun _ => HS.out, ?_⟩ | refine ⟨HS.out, ?_⟩
    refine LeftL.done (by kernel_rfl) ?_
    have hf := HF.out.call HS.out HF.out.size (by simp)
    have hout := HOUT.out.call HS.out
    have cx := CW.out _ HS.out
    clear HF HS HFX HLA HCA HOUT CW
    cases fy
    · have hs2 : selL f L (j + 1) = selL f L j := by rw [HSU.out, if_neg (by simp)]
      have HF := Lib.hid hf
      have HOUT := Lib.hid hout
      have HS2 := Lib.hid hs2
      clear hs2 hout hf
      go_wp2_with fail
      exact ⟨⟨j + 1, by simp [y4, y5], HJL.out, by rw [HS2.out]; exact HOUT.out, HF.out⟩, by have := HMS.out; simpa [intOf, y4, y5] using this⟩
    have hs2 : selL f L (j + 1) = selL f L j ++ [y] := by rw [HSU.out, if_pos (by simp)]
    obtain ⟨w2, hw2⟩ : ∃ V, V = w1 := ⟨_, rfl⟩
    rw [← hw2] at hf hout cx ⊢
    clear hw2
    obtain ⟨own, hsl, hown⟩ := hout
    have HSL := Lib.hid hsl
    have HOWN := Lib.hid hown
    have HF := Lib.hid hf
    have HS2 := Lib.hid hs2
    clear hs2 hf hown hsl
    go_wp2_with (at_builtin; refine hold ?_; intro qG hG)
    refine hG.1 ?_; clear hG qG
    refine wpList_append_sl _ rfl (.tmp 32) (.tmp 37) 42 rfl 3 i0 _ 1 8 Try.underlying42 HI0.out HZ0.out HZ1.out HZ2.out rfl _ _ (intsC (selL f L j)) own rfl (HSL.out.alloc _) ⟨w2.heap.size, 0, none⟩ 1 1 [.int .i64 (y : Int)] rfl rfl (news_alloc _ [.int .i64 (y : Int)] _) (by simp [Value.oneCell']) (by have := HLK.out; have := HL5.out; unfold maxLen; omega) (by have := HLK.out; have := HL5.out; omega) ?_
    intro v3 w3 own3 hs3 hf3 ho3
    have hf := (HF.out.alloc HF.out.size (.cells [Value.int .i64 (y : Int)].toArray 3)).call hf3 (by have := HF.out.size; simp; omega) (fun x hx hm => by have := HOWN.out x (by simpa using hm); omega)
    have hin : Ints U1 w3 v3 (selL f L (j + 1)) := by
      rw [HS2.out]
      refine ⟨own3, by rw [intsC_snoc, List.length_append]; exact hs3, fun b hb => ?_⟩
      rcases ho3 with h | ⟨q, h, hq⟩
      · exact HOWN.out b (by rw [← h]; exact hb)
      · rw [hb] at h; cases h; have := HF.out.size; simp at hq; omega
    clear hs3 hf3 ho3 HSL HF HOWN cx
    have HIN2 := Lib.hid hin
    have HF := Lib.hid hf
    clear hf hin
    go_wp2_with fail
    exact ⟨⟨j + 1, by simp [y4, y5], HJL.out, HIN2.out, HF.out⟩, by have := HMS.out; simpa [intOf, y4, y5] using this⟩
end Go.Proofs.Ythgmdilfmeefiaa
