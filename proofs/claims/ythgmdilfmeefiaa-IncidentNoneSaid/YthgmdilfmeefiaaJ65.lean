/-
  A book that no call made: its methods return ErrNil, and nothing.
-/
import Derived.Test.YthgmdilfmeefiaaBI
namespace Go.Proofs.Ythgmdilfmeefiaa
set_option linter.all false
set_option linter.unusedSimpArgs false
set_option linter.unusedVariables false
open Go.RowKit

/-- No book, or one that no call made. -/
def Unmade (p : Value) (w : World) : Prop := p = .pointer none ∨ ∃ k, p = .pointer (some ⟨k, 0, none⟩) ∧ w.cell? ⟨k, 2, none⟩ = some (.bool false)
theorem Unmade.frm {p : Value} {w w' : World} (h : Unmade p w) (hf : Frm w.heap.size [] w w') : Unmade p w' := by
  rcases h with h | ⟨k, h, hc⟩
  · exact .inl h
  · exact .inr ⟨k, h, (hf.cell (cell_lt hc) (by simp)).trans hc⟩
theorem unmade_call {p : Value} {w : World} (h : Unmade p w) : Calls Try.prog 35 #[p] w fun e w' => e = .returned (.bool false) ∧ w = w' := by
  rcases h with rfl | ⟨k, rfl, hc⟩
  · exact is_none w
  · exact is_made w k false hc
set_option maxRecDepth 100000 in
set_option maxHeartbeats 8000000 in
theorem none16 {p : Value} {w : World} (h : Unmade p w) (i : Int) :
    Calls Try.prog 16 #[p, .int .i64 i] w fun e w' => e = .returned (.tuple #[.slice none 0 0, .int .i64 1]) ∧ Frm w.heap.size [] w w' := by
  have hf0 := Try.func16
  have HH := Lib.hid h
  clear h
  go_enter Try.func16, Try.ntmps16
  go_wp2_with (go_at_call 35; refine (unmade_call HH.out).mono ?_; rintro e w' ⟨rfl, rfl⟩)
  refine bodyPost_ret (v := .tuple #[.slice none 0 0, .int .i64 1]) (by simp [results, Try.results16, go_sem]) rfl ?_
  exact ⟨rfl, Frm.refl _ _ _⟩
set_option maxRecDepth 100000 in
set_option maxHeartbeats 8000000 in
theorem none19 {p : Value} {w : World} (h : Unmade p w) (i : Int) :
    Calls Try.prog 19 #[p, .int .i64 i] w fun e w' => e = .returned (.tuple #[.slice none 0 0, .int .i64 1]) ∧ Frm w.heap.size [] w w' := by
  have hf0 := Try.func19
  have HH := Lib.hid h
  clear h
  go_enter Try.func19, Try.ntmps19
  go_wp2_with (go_at_call 35; refine (unmade_call HH.out).mono ?_; rintro e w' ⟨rfl, rfl⟩)
  refine bodyPost_ret (v := .tuple #[.slice none 0 0, .int .i64 1]) (by simp [results, Try.results19, go_sem]) rfl ?_
  exact ⟨rfl, Frm.refl _ _ _⟩
set_option maxRecDepth 100000 in
set_option maxHeartbeats 8000000 in
theorem none18 {p : Value} {w : World} (h : Unmade p w)  :
    Calls Try.prog 18 #[p] w fun e w' => e = .returned (.slice none 0 0) ∧ Frm w.heap.size [] w w' := by
  have hf0 := Try.func18
  have HH := Lib.hid h
  clear h
  go_enter Try.func18, Try.ntmps18
  go_wp2_with (go_at_call 35; refine (unmade_call HH.out).mono ?_; rintro e w' ⟨rfl, rfl⟩)
  refine bodyPost_ret (v := .slice none 0 0) (by simp [results, Try.results18, go_sem]) rfl ?_
  exact ⟨rfl, Frm.refl _ _ _⟩
set_option maxRecDepth 100000 in
set_option maxHeartbeats 8000000 in
theorem none27 {p : Value} {w : World} (h : Unmade p w) (i : Int) :
    Calls Try.prog 27 #[p, .int .i64 i] w fun e w' => e = .returned (.tuple #[.int .i64 0, .int .i64 1]) ∧ Frm w.heap.size [] w w' := by
  have hf0 := Try.func27
  have HH := Lib.hid h
  clear h
  go_enter Try.func27, Try.ntmps27
  go_wp2_with (go_at_call 35; refine (unmade_call HH.out).mono ?_; rintro e w' ⟨rfl, rfl⟩)
  refine bodyPost_ret (v := .tuple #[.int .i64 0, .int .i64 1]) (by simp [results, Try.results27, go_sem]) rfl ?_
  exact ⟨rfl, Frm.refl _ _ _⟩
set_option maxRecDepth 100000 in
set_option maxHeartbeats 8000000 in
theorem none34 {p : Value} {w : World} (h : Unmade p w) (i j : Int) :
    Calls Try.prog 34 #[p, .int .i64 i, .int .i64 j] w fun e w' => e = .returned (.int .i64 1) ∧ Frm w.heap.size [] w w' := by
  have hf0 := Try.func34
  have HH := Lib.hid h
  clear h
  go_enter Try.func34, Try.ntmps34
  go_wp2_with (go_at_call 35; refine (unmade_call HH.out).mono ?_; rintro e w' ⟨rfl, rfl⟩)
  refine bodyPost_ret (v := .int .i64 1) (by simp [results, Try.results34, go_sem]) rfl ?_
  exact ⟨rfl, Frm.refl _ _ _⟩
set_option maxRecDepth 100000 in
set_option maxHeartbeats 8000000 in
theorem none26 {p : Value} {w : World} (h : Unmade p w) (r : Rep) (ad : Option Addr) (cap : Nat) :
    Calls Try.prog 26 #[p, .agg (repC r ad cap).toArray] w fun e w' => e = .returned (.tuple #[.int .i64 0, .int .i64 0, .int .i64 1]) ∧ Frm w.heap.size [] w w' := by
  have hf0 := Try.func26
  have HH := Lib.hid h
  clear h
  go_enter Try.func26, Try.ntmps26
  go_upto_region 1 with fail
  refine namedC ?_; intro W hW
  have hf : Frm w.heap.size [] w W := by rw [hW]; repeat (first | with_reducible exact Frm.refl _ _ _ | with_reducible refine Frm.drewN ?_ | with_reducible refine Frm.drew ?_ | ((with_reducible refine Frm.setCell' ?_ ?_); · first | (left; simp; done) | (right; simp; done) | (right; simp; omega)) | ((with_reducible refine Frm.alloc' ?_ ?_); · first | exact Nat.le_refl _ | (simp; done) | (simp; omega)))
  clear hW hf0
  have HF := Lib.hid hf
  clear hf
  go_wp2_with (go_at_call 35; refine (unmade_call (HH.out.frm HF.out)).mono ?_; rintro e w' ⟨rfl, rfl⟩)
  refine bodyPost_ret (v := .tuple #[.int .i64 0, .int .i64 0, .int .i64 1]) (by simp [results, Try.results26, go_sem]) rfl ?_
  exact ⟨rfl, HF.out⟩
set_option maxRecDepth 100000 in
set_option maxHeartbeats 8000000 in
theorem none28 {p : Value} {w : World} (h : Unmade p w) (r : Prf) (ad : Option Addr) (cap : Nat) :
    Calls Try.prog 28 #[p, .agg (prfA r ad cap).toArray] w fun e w' => e = .returned (.int .i64 1) ∧ Frm w.heap.size [] w w' := by
  have hf0 := Try.func28
  have HH := Lib.hid h
  clear h
  go_enter Try.func28, Try.ntmps28
  go_upto_region 1 with fail
  refine namedC ?_; intro W hW
  have hf : Frm w.heap.size [] w W := by rw [hW]; repeat (first | with_reducible exact Frm.refl _ _ _ | with_reducible refine Frm.drewN ?_ | with_reducible refine Frm.drew ?_ | ((with_reducible refine Frm.setCell' ?_ ?_); · first | (left; simp; done) | (right; simp; done) | (right; simp; omega)) | ((with_reducible refine Frm.alloc' ?_ ?_); · first | exact Nat.le_refl _ | (simp; done) | (simp; omega)))
  clear hW hf0
  have HF := Lib.hid hf
  clear hf
  go_wp2_with (go_at_call 35; refine (unmade_call (HH.out.frm HF.out)).mono ?_; rintro e w' ⟨rfl, rfl⟩)
  refine bodyPost_ret (v := .int .i64 1) (by simp [results, Try.results28, go_sem]) rfl ?_
  exact ⟨rfl, HF.out⟩
set_option maxRecDepth 100000 in
set_option maxHeartbeats 8000000 in
theorem none17 {p : Value} {w : World} (h : Unmade p w) (i : Int) :
    Calls Try.prog 17 #[p, .int .i64 i] w fun e w' => e = .returned (.tuple #[.agg zeroR.toArray, .int .i64 0, .int .i64 1]) ∧ Frm w.heap.size [] w w' := by
  have hf0 := Try.func17
  have HH := Lib.hid h
  clear h
  go_enter Try.func17, Try.ntmps17
  go_upto_region 1 with fail
  refine namedC ?_; intro W hW
  have k0 : Blk W w.heap.size 24 zeroR := by rw [hW]; exact Blk.new w 24 zeroR
  have hf : Frm w.heap.size [] w W := by rw [hW]; repeat (first | with_reducible exact Frm.refl _ _ _ | with_reducible refine Frm.drewN ?_ | with_reducible refine Frm.drew ?_ | ((with_reducible refine Frm.setCell' ?_ ?_); · first | (left; simp; done) | (right; simp; done) | (right; simp; omega)) | ((with_reducible refine Frm.alloc' ?_ ?_); · first | exact Nat.le_refl _ | (simp; done) | (simp; omega)))
  clear hW hf0
  have HF := Lib.hid hf
  have K0 := Lib.hid k0
  clear k0 hf
  go_wp2_with (first | (go_at_call 35; refine (unmade_call (HH.out.frm HF.out)).mono ?_; rintro e w' ⟨rfl, rfl⟩) | (with_reducible refine atStore 24 rfl ?_; refine stop_ ?_))
  refine go_on ?_
  refine wpList_storeB (P := Try.prog) (cs := zeroR) rfl rfl K0.out rfl rfl rfl info24 (by simp [zeroR, Value.oneCell']) ?_
  have k0 := K0.out.row zeroR
  have hf := HF.out.setRow (g := w.heap.size) (.inr (Nat.le_refl _)) zeroR.toArray
  generalize World.setRow W w.heap.size _ = V at k0 hf ⊢
  clear HF K0
  dsimp only [Act.put]
  have HF := Lib.hid hf
  have K0 := Lib.hid k0
  clear k0 hf
  go_wp2_with fail
  refine bodyPost_ret (results_ctt Try.results17 K0.out rfl Try.underlying24 rfl info24) rfl ?_
  exact ⟨rfl, HF.out⟩
set_option maxRecDepth 100000 in
set_option maxHeartbeats 8000000 in
theorem none15 {p : Value} {w : World} (h : Unmade p w) (x : Act_) (q : APos) :
    Calls Try.prog 15 #[p, .agg (actC x q).toArray] w fun e w' => (∃ a b : Int, e = .returned (.tuple #[.int .i64 a, .int .i64 b, .int .i64 1])) ∧ Frm w.heap.size [] w w' := by
  have hf0 := Try.func15
  obtain ⟨C, hC⟩ : ∃ c, c = actC x q := ⟨_, rfl⟩
  have h0 : C[0]? = some (.int .i64 x.what) := by rw [hC]; rfl
  have h1 : C[1]? = some (.int .i64 x.n) := by rw [hC]; rfl
  have h2 : C[2]? = some (.int .i64 x.m) := by rw [hC]; rfl
  have hl24 : ∀ U p, Blk U p 41 C → (loadVar 24 ⟨p, 3, none⟩).run Try.prog U = .ok (.agg (repC x.r q.ra q.rc).toArray) U := fun U p hb =>
    run_loadVar_mid U p 3 24 _ _ (fun j v hv => by rw [hb.cell (3 + j), hC]; exact act_rep x q j v hv) Try.underlying24 rfl info24
  have hl39 : ∀ U p, Blk U p 41 C → (loadVar 39 ⟨p, 10, none⟩).run Try.prog U = .ok (.agg (prfA x.p q.pa q.pc).toArray) U := fun U p hb =>
    run_loadVar_mid U p 10 39 _ _ (fun j v hv => by rw [hb.cell (10 + j), hC]; exact act_prf x q j v hv) Try.underlying39 rfl info39
  obtain ⟨wh, hwh⟩ : ∃ c, c = x.what := ⟨_, rfl⟩
  obtain ⟨xn, hxn⟩ : ∃ c, c = x.n := ⟨_, rfl⟩
  obtain ⟨xm, hxm⟩ : ∃ c, c = x.m := ⟨_, rfl⟩
  rw [← hwh] at h0
  rw [← hxn] at h1
  rw [← hxm] at h2
  rw [← hC]
  clear hwh hxn hxm hC
  have HH := Lib.hid h
  have H0 := Lib.hid h0
  have H1 := Lib.hid h1
  have H2 := Lib.hid h2
  have HL24 := Lib.hid hl24
  have HL39 := Lib.hid hl39
  clear hl39 hl24 h2 h1 h0 h
  go_enter Try.func15, Try.ntmps15
  go_upto_region 1 with fail
  refine namedC ?_; intro W hW
  have k0 : Blk W w.heap.size 41 C := by rw [hW]; exact Blk.new w 41 C
  have hf : Frm w.heap.size [] w W := by rw [hW]; repeat (first | with_reducible exact Frm.refl _ _ _ | with_reducible refine Frm.drewN ?_ | with_reducible refine Frm.drew ?_ | ((with_reducible refine Frm.setCell' ?_ ?_); · first | (left; simp; done) | (right; simp; done) | (right; simp; omega)) | ((with_reducible refine Frm.alloc' ?_ ?_); · first | exact Nat.le_refl _ | (simp; done) | (simp; omega)))
  clear hW hf0
  have c0 : W.cell? ⟨w.heap.size, 0, none⟩ = some (.int .i64 wh) := (k0.cell 0).trans H0.out
  have c1 : W.cell? ⟨w.heap.size, 1, none⟩ = some (.int .i64 xn) := (k0.cell 1).trans H1.out
  have c2 : W.cell? ⟨w.heap.size, 2, none⟩ = some (.int .i64 xm) := (k0.cell 2).trans H2.out
  have l24 := HL24.out W _ k0
  have l39 := HL39.out W _ k0
  have hu := HH.out.frm hf
  clear k0
  have HF := Lib.hid hf
  have L24 := Lib.hid l24
  have L39 := Lib.hid l39
  have HU := Lib.hid hu
  clear hu l39 l24 hf
  by_cases e1 : wh = 1
  · subst e1
    go_wp2_with (with_reducible refine atLoad 39 rfl ?_; refine wpList_loadE rfl rfl rfl L39.out ?_)
    refine (none28 HU.out _ _ _).mono ?_; rintro e V' ⟨rfl, hf1⟩
    have hf := HF.out.call hf1 HF.out.size (by simp)
    clear hf1 HF
    have HF := Lib.hid hf
    clear hf
    go_wp2_with fail
    refine bodyPost_ret (v := .tuple #[.int .i64 0, .int .i64 0, .int .i64 1]) (by simp [results, Try.results15, go_sem]) rfl ?_
    exact ⟨⟨0, 0, rfl⟩, HF.out⟩
  have e1b : (wh == 1) = false := by simp [e1]
  by_cases e2 : wh = 2
  · subst e2
    go_wp2_with fail
    refine (none27 HU.out _).mono ?_; rintro e V' ⟨rfl, hf1⟩
    have hf := HF.out.call hf1 HF.out.size (by simp)
    clear hf1 HF
    have HF := Lib.hid hf
    clear hf
    go_wp2_with fail
    refine bodyPost_ret (v := .tuple #[.int .i64 0, .int .i64 0, .int .i64 1]) (by simp [results, Try.results15, go_sem]) rfl ?_
    exact ⟨⟨0, 0, rfl⟩, HF.out⟩
  have e2b : (wh == 2) = false := by simp [e2]
  by_cases e3 : wh = 3
  · subst e3
    go_wp2_with fail
    refine (none34 HU.out _ _).mono ?_; rintro e V' ⟨rfl, hf1⟩
    have hf := HF.out.call hf1 HF.out.size (by simp)
    clear hf1 HF
    have HF := Lib.hid hf
    clear hf
    go_wp2_with fail
    refine bodyPost_ret (v := .tuple #[.int .i64 0, .int .i64 0, .int .i64 1]) (by simp [results, Try.results15, go_sem]) rfl ?_
    exact ⟨⟨0, 0, rfl⟩, HF.out⟩
  have e3b : (wh == 3) = false := by simp [e3]
  go_wp2_with (with_reducible refine atLoad 24 rfl ?_; refine wpList_loadE rfl rfl rfl L24.out ?_)
  refine (none26 HU.out _ _ _).mono ?_; rintro e V' ⟨rfl, hf1⟩
  have hf := HF.out.call hf1 HF.out.size (by simp)
  clear hf1 HF
  have HF := Lib.hid hf
  clear hf
  go_wp2_with fail
  refine bodyPost_ret (v := .tuple #[.int .i64 0, .int .i64 0, .int .i64 1]) (by simp [results, Try.results15, go_sem]) rfl ?_
  exact ⟨⟨0, 0, rfl⟩, HF.out⟩
end Go.Proofs.Ythgmdilfmeefiaa
