/-
  Texts J14, J15, J16 of this claim, one behind the other.
-/
import Derived.Test.YthgmdilfmeefiaaB6
namespace Go.Proofs.Ythgmdilfmeefiaa
set_option linter.all false
set_option linter.unusedSimpArgs false
set_option linter.unusedVariables false
open Go.RowKit

theorem valid_any (a b : Int) (w : World) : Calls Try.prog 30 #[.agg #[.int .i64 a, .int .i64 b]] w fun e w' => e = .returned (.bool (rulesB a b)) ∧ Frm w.heap.size [] w w' := by
  have hf0 := Try.func30
  have hd : rulesB a b = (inB a 0 604800 && inB b 0 100000) := rfl
  go_enter Try.func30, Try.ntmps30
  go_upto_region 1 with fail
  refine namedC ?_; intro W hW
  have k0 : Blk W w.heap.size 60 [.int .i64 a, .int .i64 b] := by rw [hW]; exact Blk.new w 60 [.int .i64 a, .int .i64 b]
  have hf : Frm w.heap.size [] w W := by rw [hW]; repeat (first | with_reducible exact Frm.refl _ _ _ | with_reducible refine Frm.drewN ?_ | with_reducible refine Frm.drew ?_ | ((with_reducible refine Frm.setCell' ?_ ?_); · first | (left; simp; done) | (right; simp; done) | (right; simp; omega)) | ((with_reducible refine Frm.alloc' ?_ ?_); · first | exact Nat.le_refl _ | (simp; done) | (simp; omega)))
  have c0 : W.cell? ⟨w.heap.size, 0, none⟩ = some (.int .i64 a) := k0.cell 0
  have c1 : W.cell? ⟨w.heap.size, 1, none⟩ = some (.int .i64 b) := k0.cell 1
  clear hW hf0 k0
  have HF := Lib.hid hf
  have HD := Lib.hid hd
  clear hd hf
  cases h1 : inB a 0 604800
  · have H1 := Lib.hid h1
    clear h1
    go_wp2_with (go_at_call 38; refine (withinI_any _ _ _ _).mono ?_; rintro e w' ⟨rfl, rfl⟩; rw [H1.out])
    go_ret
    exact ⟨by rw [HD.out, H1.out]; rfl, HF.out⟩
  have H1 := Lib.hid h1
  clear h1
  obtain ⟨b2, h2⟩ : ∃ c, c = inB b 0 100000 := ⟨_, rfl⟩
  have h2' := h2.symm
  have H2 := Lib.hid h2
  have H2' := Lib.hid h2'
  clear h2' h2
  go_wp2_with (go_at_call 38; refine (withinI_any _ _ _ _).mono ?_; rintro e w' ⟨rfl, rfl⟩; first | rw [H1.out] | rw [H2'.out])
  go_ret
  exact ⟨by rw [HD.out, H1.out, ← H2.out]; rfl, HF.out⟩
theorem refRules_any (a b : Int) (w : World) : Calls Try.prog 21 #[.int .i64 a, .int .i64 b] w fun e w' => e = .returned (.bool (rulesB a b)) ∧ w = w' := by
  have hd : rulesB a b = (inB a 0 604800 && inB b 0 100000) := rfl
  have HD := Lib.hid hd
  clear hd
  cases h1 : inB a 0 604800
  · have H1 := Lib.hid h1
    clear h1
    go_enter Try.func21, Try.ntmps21
    go_wp2_with (go_at_call 41; refine (refIn_any _ _ _ _).mono ?_; rintro e w' ⟨rfl, rfl⟩; rw [H1.out])
    go_ret
    exact ⟨by rw [HD.out, H1.out]; rfl, rfl⟩
  have H1 := Lib.hid h1
  clear h1
  obtain ⟨b2, h2⟩ : ∃ c, c = inB b 0 100000 := ⟨_, rfl⟩
  have h2' := h2.symm
  have H2 := Lib.hid h2
  have H2' := Lib.hid h2'
  clear h2' h2
  go_enter Try.func21, Try.ntmps21
  go_wp2_with (go_at_call 41; refine (refIn_any _ _ _ _).mono ?_; rintro e w' ⟨rfl, rfl⟩; first | rw [H1.out] | rw [H2'.out])
  go_ret
  exact ⟨by rw [HD.out, H1.out, ← H2.out]; rfl, rfl⟩
set_option maxRecDepth 100000 in
set_option maxHeartbeats 8000000 in
theorem bothN_any (r1 r2 : Rep) (ad1 ad2 : Option Addr) (cap1 cap2 : Nat) (w : World) :
    Calls Try.prog 82 #[.agg (repC r1 ad1 cap1).toArray, .agg (repC r2 ad2 cap2).toArray] w fun e w' => e = .returned (.bool (bothN r1 r2)) ∧ Frm w.heap.size [] w w' := by
  have hf0 := Try.func82
  obtain ⟨kind1, time1, src1, abt1, wh1, souls1, trust1⟩ := r1
  obtain ⟨kind2, time2, src2, abt2, wh2, souls2, trust2⟩ := r2
  obtain ⟨n1, hn1⟩ : ∃ n, n = wh1.length := ⟨_, rfl⟩
  obtain ⟨n2, hn2⟩ : ∃ n, n = wh2.length := ⟨_, rfl⟩
  have e1 : repC ⟨kind1, time1, src1, abt1, wh1, souls1, trust1⟩ ad1 cap1 = [.int .i64 kind1, .int .i64 time1, .string src1, .string abt1, .slice ad1 n1 cap1, .int .i64 souls1, .int .i64 trust1] := by rw [hn1]; rfl
  have e2 : repC ⟨kind2, time2, src2, abt2, wh2, souls2, trust2⟩ ad2 cap2 = [.int .i64 kind2, .int .i64 time2, .string src2, .string abt2, .slice ad2 n2 cap2, .int .i64 souls2, .int .i64 trust2] := by rw [hn2]; rfl
  rw [e1, e2]
  clear e1 e2
  have HN1 := Lib.hid hn1
  have HN2 := Lib.hid hn2
  clear hn2 hn1
  have hd : bothN ⟨kind1, time1, src1, abt1, wh1, souls1, trust1⟩ ⟨kind2, time2, src2, abt2, wh2, souls2, trust2⟩ = (decide (abt1.size ≠ 0) && decide (abt2.size ≠ 0)) := rfl
  have HD := Lib.hid hd
  clear hd
  go_enter Try.func82, Try.ntmps82
  go_upto_region 1 with fail
  refine namedC ?_; intro W hW
  have k0 : Blk W w.heap.size 24 [.int .i64 kind1, .int .i64 time1, .string src1, .string abt1, .slice ad1 n1 cap1, .int .i64 souls1, .int .i64 trust1] := by rw [hW]; refine Blk.alloc' ?_; exact Blk.new w 24 [.int .i64 kind1, .int .i64 time1, .string src1, .string abt1, .slice ad1 n1 cap1, .int .i64 souls1, .int .i64 trust1]
  have k1 : Blk W (w.heap.size + 1) 24 [.int .i64 kind2, .int .i64 time2, .string src2, .string abt2, .slice ad2 n2 cap2, .int .i64 souls2, .int .i64 trust2] := by rw [hW]; exact Blk.new' _ 24 [.int .i64 kind2, .int .i64 time2, .string src2, .string abt2, .slice ad2 n2 cap2, .int .i64 souls2, .int .i64 trust2] (by simp)
  have hf : Frm w.heap.size [] w W := by rw [hW]; repeat (first | with_reducible exact Frm.refl _ _ _ | with_reducible refine Frm.drewN ?_ | with_reducible refine Frm.drew ?_ | ((with_reducible refine Frm.setCell' ?_ ?_); · first | (left; simp; done) | (right; simp; done) | (right; simp; omega)) | ((with_reducible refine Frm.alloc' ?_ ?_); · first | exact Nat.le_refl _ | (simp; done) | (simp; omega)))
  have c0 : W.cell? ⟨w.heap.size, 3, none⟩ = some (.string abt1) := k0.cell 3
  have c1 : W.cell? ⟨w.heap.size + 1, 3, none⟩ = some (.string abt2) := k1.cell 3
  clear hW hf0 k0 k1
  have HF := Lib.hid hf
  clear hf
  by_cases h1 : abt1.size = 0
  · have hl : abt1.toList = [] := by rw [str_nil h1, Lib.toList_data]
    have hl2 : abt1.toList.isEmpty = true := by rw [hl]; rfl
    go_wp2_with fail
    go_ret
    exact ⟨by rw [HD.out]; simp [h1], HF.out⟩
  have hl : ¬ abt1.toList = [] := lst_not h1
  have hl2 : abt1.toList.isEmpty = false := by simp [hl]
  by_cases h2 : abt2.size = 0
  · have hk : abt2.toList = [] := by rw [str_nil h2, Lib.toList_data]
    have hk2 : abt2.toList.isEmpty = true := by rw [hk]; rfl
    go_wp2_with fail
    go_ret
    exact ⟨by rw [HD.out]; simp [h2], HF.out⟩
  have hk : ¬ abt2.toList = [] := lst_not h2
  have hk2 : abt2.toList.isEmpty = false := by simp [hk]
  go_wp2_with fail
  go_ret
  exact ⟨by rw [HD.out]; simp [h1, h2], HF.out⟩
end Go.Proofs.Ythgmdilfmeefiaa

namespace Go.Proofs.Ythgmdilfmeefiaa
set_option linter.all false
set_option linter.unusedSimpArgs false
set_option linter.unusedVariables false
open Go.RowKit

theorem lst_inj {a b : ByteArray} (h : a.toList = b.toList) : a = b := by
  rw [Lib.toList_data, Lib.toList_data] at h
  obtain ⟨⟨l⟩⟩ := a
  obtain ⟨⟨m⟩⟩ := b
  have h : l = m := h
  rw [h]
theorem info24 : (Try.prog.info? 24).map (fun i => i.size) = some 7 := by kernel_rfl
theorem load24 {w : World} {b : Nat} {cs : List Value} (h : Blk w b 24 cs) (hl : cs.length = 7) : (loadVar 24 ⟨b, 0, none⟩).run Try.prog w = .ok (.agg cs.toArray) w := loadVarB h (P := Try.prog) Try.underlying24 rfl (by rw [hl]; exact info24)
set_option maxRecDepth 100000 in
set_option maxHeartbeats 8000000 in
theorem line5_any (wd dr : Int) (r1 r2 : Rep) (ad1 ad2 : Option Addr) (cap1 cap2 : Nat) (w : World) :
    Calls Try.prog 88 #[.agg #[.int .i64 wd, .int .i64 dr], .agg (repC r1 ad1 cap1).toArray, .agg (repC r2 ad2 cap2).toArray] w fun e w' => e = .returned (.bool (true)) ∧ Frm w.heap.size [] w w' := by
  have hf0 := Try.func88
  obtain ⟨kind1, time1, src1, abt1, wh1, souls1, trust1⟩ := r1
  obtain ⟨kind2, time2, src2, abt2, wh2, souls2, trust2⟩ := r2
  obtain ⟨n1, hn1⟩ : ∃ n, n = wh1.length := ⟨_, rfl⟩
  obtain ⟨n2, hn2⟩ : ∃ n, n = wh2.length := ⟨_, rfl⟩
  have e1 : repC ⟨kind1, time1, src1, abt1, wh1, souls1, trust1⟩ ad1 cap1 = [.int .i64 kind1, .int .i64 time1, .string src1, .string abt1, .slice ad1 n1 cap1, .int .i64 souls1, .int .i64 trust1] := by rw [hn1]; rfl
  have e2 : repC ⟨kind2, time2, src2, abt2, wh2, souls2, trust2⟩ ad2 cap2 = [.int .i64 kind2, .int .i64 time2, .string src2, .string abt2, .slice ad2 n2 cap2, .int .i64 souls2, .int .i64 trust2] := by rw [hn2]; rfl
  rw [e1, e2]
  clear e1 e2
  have HN1 := Lib.hid hn1
  have HN2 := Lib.hid hn2
  clear hn2 hn1
  go_enter Try.func88, Try.ntmps88
  go_upto_region 1 with fail
  refine namedC ?_; intro W hW
  have k0 : Blk W w.heap.size 60 [.int .i64 wd, .int .i64 dr] := by rw [hW]; refine Blk.alloc' ?_; refine Blk.alloc' ?_; exact Blk.new w 60 [.int .i64 wd, .int .i64 dr]
  have k1 : Blk W (w.heap.size + 1) 24 [.int .i64 kind1, .int .i64 time1, .string src1, .string abt1, .slice ad1 n1 cap1, .int .i64 souls1, .int .i64 trust1] := by rw [hW]; refine Blk.alloc' ?_; exact Blk.new' _ 24 [.int .i64 kind1, .int .i64 time1, .string src1, .string abt1, .slice ad1 n1 cap1, .int .i64 souls1, .int .i64 trust1] (by simp)
  have k2 : Blk W (w.heap.size + 1 + 1) 24 [.int .i64 kind2, .int .i64 time2, .string src2, .string abt2, .slice ad2 n2 cap2, .int .i64 souls2, .int .i64 trust2] := by rw [hW]; exact Blk.new' _ 24 [.int .i64 kind2, .int .i64 time2, .string src2, .string abt2, .slice ad2 n2 cap2, .int .i64 souls2, .int .i64 trust2] (by simp)
  have hf : Frm w.heap.size [] w W := by rw [hW]; repeat (first | with_reducible exact Frm.refl _ _ _ | with_reducible refine Frm.drewN ?_ | with_reducible refine Frm.drew ?_ | ((with_reducible refine Frm.setCell' ?_ ?_); · first | (left; simp; done) | (right; simp; done) | (right; simp; omega)) | ((with_reducible refine Frm.alloc' ?_ ?_); · first | exact Nat.le_refl _ | (simp; done) | (simp; omega)))
  clear hW hf0
  have HF := Lib.hid hf
  clear hf
  go_wp2_with fail
  go_ret
  exact ⟨rfl, HF.out⟩
set_option maxRecDepth 100000 in
set_option maxHeartbeats 8000000 in
theorem line2_any (wd dr : Int) (r1 r2 : Rep) (ad1 ad2 : Option Addr) (cap1 cap2 : Nat) (w : World) :
    Calls Try.prog 83 #[.agg #[.int .i64 wd, .int .i64 dr], .agg (repC r1 ad1 cap1).toArray, .agg (repC r2 ad2 cap2).toArray] w fun e w' => e = .returned (.bool (bothN r1 r2)) ∧ Frm w.heap.size [] w w' := by
  have hf0 := Try.func83
  obtain ⟨kind1, time1, src1, abt1, wh1, souls1, trust1⟩ := r1
  obtain ⟨kind2, time2, src2, abt2, wh2, souls2, trust2⟩ := r2
  obtain ⟨n1, hn1⟩ : ∃ n, n = wh1.length := ⟨_, rfl⟩
  obtain ⟨n2, hn2⟩ : ∃ n, n = wh2.length := ⟨_, rfl⟩
  have e1 : repC ⟨kind1, time1, src1, abt1, wh1, souls1, trust1⟩ ad1 cap1 = [.int .i64 kind1, .int .i64 time1, .string src1, .string abt1, .slice ad1 n1 cap1, .int .i64 souls1, .int .i64 trust1] := by rw [hn1]; rfl
  have e2 : repC ⟨kind2, time2, src2, abt2, wh2, souls2, trust2⟩ ad2 cap2 = [.int .i64 kind2, .int .i64 time2, .string src2, .string abt2, .slice ad2 n2 cap2, .int .i64 souls2, .int .i64 trust2] := by rw [hn2]; rfl
  rw [e1, e2]
  clear e1 e2
  have HN1 := Lib.hid hn1
  have HN2 := Lib.hid hn2
  clear hn2 hn1
  obtain ⟨bo, hbo⟩ : ∃ b, b = bothN ⟨kind1, time1, src1, abt1, wh1, souls1, trust1⟩ ⟨kind2, time2, src2, abt2, wh2, souls2, trust2⟩ := ⟨_, rfl⟩
  have hca : ∀ V, Calls Try.prog 82 #[.agg [.int .i64 kind1, .int .i64 time1, .string src1, .string abt1, .slice ad1 n1 cap1, .int .i64 souls1, .int .i64 trust1].toArray, .agg [.int .i64 kind2, .int .i64 time2, .string src2, .string abt2, .slice ad2 n2 cap2, .int .i64 souls2, .int .i64 trust2].toArray] V fun e w' => e = .returned (.bool bo) ∧ Frm V.heap.size [] V w' := fun V => by
    have := bothN_any (⟨kind1, time1, src1, abt1, wh1, souls1, trust1⟩ : Rep) (⟨kind2, time2, src2, abt2, wh2, souls2, trust2⟩ : Rep) ad1 ad2 cap1 cap2 V
    rw [hbo]
    have x1 : repC (⟨kind1, time1, src1, abt1, wh1, souls1, trust1⟩ : Rep) ad1 cap1 = [.int .i64 kind1, .int .i64 time1, .string src1, .string abt1, .slice ad1 n1 cap1, .int .i64 souls1, .int .i64 trust1] := by have := HN1.out; rw [this]; rfl
    have x2 : repC (⟨kind2, time2, src2, abt2, wh2, souls2, trust2⟩ : Rep) ad2 cap2 = [.int .i64 kind2, .int .i64 time2, .string src2, .string abt2, .slice ad2 n2 cap2, .int .i64 souls2, .int .i64 trust2] := by have := HN2.out; rw [this]; rfl
    rw [x1, x2] at this
    exact this
  rw [← hbo]
  (try dsimp only)
  clear hbo
  have HCA := Lib.hid hca
  clear hca
  go_enter Try.func83, Try.ntmps83
  go_upto_region 1 with fail
  refine namedC ?_; intro W hW
  have k0 : Blk W w.heap.size 60 [.int .i64 wd, .int .i64 dr] := by rw [hW]; refine Blk.alloc' ?_; refine Blk.alloc' ?_; exact Blk.new w 60 [.int .i64 wd, .int .i64 dr]
  have k1 : Blk W (w.heap.size + 1) 24 [.int .i64 kind1, .int .i64 time1, .string src1, .string abt1, .slice ad1 n1 cap1, .int .i64 souls1, .int .i64 trust1] := by rw [hW]; refine Blk.alloc' ?_; exact Blk.new' _ 24 [.int .i64 kind1, .int .i64 time1, .string src1, .string abt1, .slice ad1 n1 cap1, .int .i64 souls1, .int .i64 trust1] (by simp)
  have k2 : Blk W (w.heap.size + 1 + 1) 24 [.int .i64 kind2, .int .i64 time2, .string src2, .string abt2, .slice ad2 n2 cap2, .int .i64 souls2, .int .i64 trust2] := by rw [hW]; exact Blk.new' _ 24 [.int .i64 kind2, .int .i64 time2, .string src2, .string abt2, .slice ad2 n2 cap2, .int .i64 souls2, .int .i64 trust2] (by simp)
  have hf : Frm w.heap.size [] w W := by rw [hW]; repeat (first | with_reducible exact Frm.refl _ _ _ | with_reducible refine Frm.drewN ?_ | with_reducible refine Frm.drew ?_ | ((with_reducible refine Frm.setCell' ?_ ?_); · first | (left; simp; done) | (right; simp; done) | (right; simp; omega)) | ((with_reducible refine Frm.alloc' ?_ ?_); · first | exact Nat.le_refl _ | (simp; done) | (simp; omega)))
  clear hW hf0
  have HF := Lib.hid hf
  have K0 := Lib.hid k0
  have K1 := Lib.hid k1
  have K2 := Lib.hid k2
  clear k2 k1 k0 hf
  go_wp2_with (with_reducible refine atLoad 24 rfl ?_; first | refine wpList_loadE rfl rfl rfl (load24 K1.out rfl) ?_ | refine wpList_loadE rfl rfl rfl (load24 K2.out rfl) ?_)
  refine (HCA.out W).mono ?_; rintro e w1 ⟨rfl, hf1⟩
  have hf := HF.out.call hf1 HF.out.size (by simp)
  clear hf1
  have HF2 := Lib.hid hf
  clear hf
  go_wp2_with fail
  go_ret
  exact ⟨rfl, HF2.out⟩
set_option maxRecDepth 100000 in
set_option maxHeartbeats 8000000 in
theorem line1_any (wd dr : Int) (r1 r2 : Rep) (ad1 ad2 : Option Addr) (cap1 cap2 : Nat) (w : World) :
    Calls Try.prog 81 #[.agg #[.int .i64 wd, .int .i64 dr], .agg (repC r1 ad1 cap1).toArray, .agg (repC r2 ad2 cap2).toArray] w fun e w' => e = .returned (.bool (bothN r1 r2 && decide (r1.abt = r2.abt))) ∧ Frm w.heap.size [] w w' := by
  have hf0 := Try.func81
  obtain ⟨kind1, time1, src1, abt1, wh1, souls1, trust1⟩ := r1
  obtain ⟨kind2, time2, src2, abt2, wh2, souls2, trust2⟩ := r2
  obtain ⟨n1, hn1⟩ : ∃ n, n = wh1.length := ⟨_, rfl⟩
  obtain ⟨n2, hn2⟩ : ∃ n, n = wh2.length := ⟨_, rfl⟩
  have e1 : repC ⟨kind1, time1, src1, abt1, wh1, souls1, trust1⟩ ad1 cap1 = [.int .i64 kind1, .int .i64 time1, .string src1, .string abt1, .slice ad1 n1 cap1, .int .i64 souls1, .int .i64 trust1] := by rw [hn1]; rfl
  have e2 : repC ⟨kind2, time2, src2, abt2, wh2, souls2, trust2⟩ ad2 cap2 = [.int .i64 kind2, .int .i64 time2, .string src2, .string abt2, .slice ad2 n2 cap2, .int .i64 souls2, .int .i64 trust2] := by rw [hn2]; rfl
  rw [e1, e2]
  clear e1 e2
  have HN1 := Lib.hid hn1
  have HN2 := Lib.hid hn2
  clear hn2 hn1
  obtain ⟨bo, hbo⟩ : ∃ b, b = bothN ⟨kind1, time1, src1, abt1, wh1, souls1, trust1⟩ ⟨kind2, time2, src2, abt2, wh2, souls2, trust2⟩ := ⟨_, rfl⟩
  have hca : ∀ V, Calls Try.prog 82 #[.agg [.int .i64 kind1, .int .i64 time1, .string src1, .string abt1, .slice ad1 n1 cap1, .int .i64 souls1, .int .i64 trust1].toArray, .agg [.int .i64 kind2, .int .i64 time2, .string src2, .string abt2, .slice ad2 n2 cap2, .int .i64 souls2, .int .i64 trust2].toArray] V fun e w' => e = .returned (.bool bo) ∧ Frm V.heap.size [] V w' := fun V => by
    have := bothN_any (⟨kind1, time1, src1, abt1, wh1, souls1, trust1⟩ : Rep) (⟨kind2, time2, src2, abt2, wh2, souls2, trust2⟩ : Rep) ad1 ad2 cap1 cap2 V
    rw [hbo]
    have x1 : repC (⟨kind1, time1, src1, abt1, wh1, souls1, trust1⟩ : Rep) ad1 cap1 = [.int .i64 kind1, .int .i64 time1, .string src1, .string abt1, .slice ad1 n1 cap1, .int .i64 souls1, .int .i64 trust1] := by have := HN1.out; rw [this]; rfl
    have x2 : repC (⟨kind2, time2, src2, abt2, wh2, souls2, trust2⟩ : Rep) ad2 cap2 = [.int .i64 kind2, .int .i64 time2, .string src2, .string abt2, .slice ad2 n2 cap2, .int .i64 souls2, .int .i64 trust2] := by have := HN2.out; rw [this]; rfl
    rw [x1, x2] at this
    exact this
  rw [← hbo]
  (try dsimp only)
  clear hbo
  have HCA := Lib.hid hca
  clear hca
  go_enter Try.func81, Try.ntmps81
  go_upto_region 1 with fail
  refine namedC ?_; intro W hW
  have k0 : Blk W w.heap.size 60 [.int .i64 wd, .int .i64 dr] := by rw [hW]; refine Blk.alloc' ?_; refine Blk.alloc' ?_; exact Blk.new w 60 [.int .i64 wd, .int .i64 dr]
  have k1 : Blk W (w.heap.size + 1) 24 [.int .i64 kind1, .int .i64 time1, .string src1, .string abt1, .slice ad1 n1 cap1, .int .i64 souls1, .int .i64 trust1] := by rw [hW]; refine Blk.alloc' ?_; exact Blk.new' _ 24 [.int .i64 kind1, .int .i64 time1, .string src1, .string abt1, .slice ad1 n1 cap1, .int .i64 souls1, .int .i64 trust1] (by simp)
  have k2 : Blk W (w.heap.size + 1 + 1) 24 [.int .i64 kind2, .int .i64 time2, .string src2, .string abt2, .slice ad2 n2 cap2, .int .i64 souls2, .int .i64 trust2] := by rw [hW]; exact Blk.new' _ 24 [.int .i64 kind2, .int .i64 time2, .string src2, .string abt2, .slice ad2 n2 cap2, .int .i64 souls2, .int .i64 trust2] (by simp)
  have hf : Frm w.heap.size [] w W := by rw [hW]; repeat (first | with_reducible exact Frm.refl _ _ _ | with_reducible refine Frm.drewN ?_ | with_reducible refine Frm.drew ?_ | ((with_reducible refine Frm.setCell' ?_ ?_); · first | (left; simp; done) | (right; simp; done) | (right; simp; omega)) | ((with_reducible refine Frm.alloc' ?_ ?_); · first | exact Nat.le_refl _ | (simp; done) | (simp; omega)))
  clear hW hf0
  have HF := Lib.hid hf
  have K0 := Lib.hid k0
  have K1 := Lib.hid k1
  have K2 := Lib.hid k2
  clear k2 k1 k0 hf
  go_wp2_with (with_reducible refine atLoad 24 rfl ?_; first | refine wpList_loadE rfl rfl rfl (load24 K1.out rfl) ?_ | refine wpList_loadE rfl rfl rfl (load24 K2.out rfl) ?_)
  refine (HCA.out W).mono ?_; rintro e w1 ⟨rfl, hf1⟩
  have hf := HF.out.call hf1 HF.out.size (by simp)
  have k1 := hf1.blk K1.out K1.out.lt (by simp)
  have k2 := hf1.blk K2.out K2.out.lt (by simp)
  have c0 : w1.cell? ⟨w.heap.size + 1, 3, none⟩ = some (.string abt1) := k1.cell 3
  have c1 : w1.cell? ⟨w.heap.size + 1 + 1, 3, none⟩ = some (.string abt2) := k2.cell 3
  clear hf1 k1 k2 HF
  have HF := Lib.hid hf
  clear hf
  cases bo
  · go_wp2_with fail
    go_ret
    exact ⟨rfl, HF.out⟩
  by_cases ha : abt1 = abt2
  · subst ha
    go_wp2_with fail
    go_ret
    exact ⟨by simp, HF.out⟩
  have hne : ¬ abt1.toList = abt2.toList := fun h => ha (lst_inj h)
  go_wp2_with fail
  go_ret
  exact ⟨by simp [ha, hne], HF.out⟩
end Go.Proofs.Ythgmdilfmeefiaa

namespace Go.Proofs.Ythgmdilfmeefiaa
set_option linter.all false
set_option linter.unusedSimpArgs false
set_option linter.unusedVariables false
open Go.RowKit

def TimeOK (t : Int) : Prop := 0 ≤ t ∧ t ≤ 1073741824
theorem dist_F {a b : Int} (ha : TimeOK a) (hb : TimeOK b) (w : World) : Calls Try.prog 85 #[.int .i64 a, .int .i64 b] w fun e w' => e = .returned (.int .i64 (distZ a b)) ∧ Frm w.heap.size [] w w' :=
  (dist_any a b ha hb w).mono fun e w' h => ⟨h.1, by rw [← h.2]; exact Frm.refl _ _ _⟩
set_option maxRecDepth 100000 in
set_option maxHeartbeats 8000000 in
theorem line3_any (wd dr : Int) (r1 r2 : Rep) (ad1 ad2 : Option Addr) (cap1 cap2 : Nat) (w : World) (ht1 : TimeOK r1.time) (ht2 : TimeOK r2.time) :
    Calls Try.prog 84 #[.agg #[.int .i64 wd, .int .i64 dr], .agg (repC r1 ad1 cap1).toArray, .agg (repC r2 ad2 cap2).toArray] w fun e w' => e = .returned (.bool (decide (wd < distZ r1.time r2.time))) ∧ Frm w.heap.size [] w w' := by
  have hf0 := Try.func84
  obtain ⟨kind1, time1, src1, abt1, wh1, souls1, trust1⟩ := r1
  obtain ⟨kind2, time2, src2, abt2, wh2, souls2, trust2⟩ := r2
  obtain ⟨n1, hn1⟩ : ∃ n, n = wh1.length := ⟨_, rfl⟩
  obtain ⟨n2, hn2⟩ : ∃ n, n = wh2.length := ⟨_, rfl⟩
  have e1 : repC ⟨kind1, time1, src1, abt1, wh1, souls1, trust1⟩ ad1 cap1 = [.int .i64 kind1, .int .i64 time1, .string src1, .string abt1, .slice ad1 n1 cap1, .int .i64 souls1, .int .i64 trust1] := by rw [hn1]; rfl
  have e2 : repC ⟨kind2, time2, src2, abt2, wh2, souls2, trust2⟩ ad2 cap2 = [.int .i64 kind2, .int .i64 time2, .string src2, .string abt2, .slice ad2 n2 cap2, .int .i64 souls2, .int .i64 trust2] := by rw [hn2]; rfl
  rw [e1, e2]
  clear e1 e2
  have HN1 := Lib.hid hn1
  have HN2 := Lib.hid hn2
  clear hn2 hn1
  dsimp only at ht1 ht2 ⊢
  obtain ⟨d, hd⟩ : ∃ d, d = distZ time1 time2 := ⟨_, rfl⟩
  have hcd : ∀ V, Calls Try.prog 85 #[.int .i64 time1, .int .i64 time2] V fun e w' => e = .returned (.int .i64 d) ∧ Frm V.heap.size [] V w' := fun V => by rw [hd]; exact dist_F ht1 ht2 V
  rw [← hd]
  clear hd ht1 ht2
  have HCD := Lib.hid hcd
  clear hcd
  go_enter Try.func84, Try.ntmps84
  go_upto_region 1 with fail
  refine namedC ?_; intro W hW
  have k0 : Blk W w.heap.size 60 [.int .i64 wd, .int .i64 dr] := by rw [hW]; refine Blk.alloc' ?_; refine Blk.alloc' ?_; exact Blk.new w 60 [.int .i64 wd, .int .i64 dr]
  have k1 : Blk W (w.heap.size + 1) 24 [.int .i64 kind1, .int .i64 time1, .string src1, .string abt1, .slice ad1 n1 cap1, .int .i64 souls1, .int .i64 trust1] := by rw [hW]; refine Blk.alloc' ?_; exact Blk.new' _ 24 [.int .i64 kind1, .int .i64 time1, .string src1, .string abt1, .slice ad1 n1 cap1, .int .i64 souls1, .int .i64 trust1] (by simp)
  have k2 : Blk W (w.heap.size + 1 + 1) 24 [.int .i64 kind2, .int .i64 time2, .string src2, .string abt2, .slice ad2 n2 cap2, .int .i64 souls2, .int .i64 trust2] := by rw [hW]; exact Blk.new' _ 24 [.int .i64 kind2, .int .i64 time2, .string src2, .string abt2, .slice ad2 n2 cap2, .int .i64 souls2, .int .i64 trust2] (by simp)
  have hf : Frm w.heap.size [] w W := by rw [hW]; repeat (first | with_reducible exact Frm.refl _ _ _ | with_reducible refine Frm.drewN ?_ | with_reducible refine Frm.drew ?_ | ((with_reducible refine Frm.setCell' ?_ ?_); · first | (left; simp; done) | (right; simp; done) | (right; simp; omega)) | ((with_reducible refine Frm.alloc' ?_ ?_); · first | exact Nat.le_refl _ | (simp; done) | (simp; omega)))
  clear hW hf0
  have hfx : ∀ V, Frm W.heap.size [] W V → V.cell? ⟨w.heap.size + 1, 1, none⟩ = some (.int .i64 time1) ∧ V.cell? ⟨w.heap.size + 1 + 1, 1, none⟩ = some (.int .i64 time2) ∧ V.cell? ⟨w.heap.size, 0, none⟩ = some (.int .i64 wd) := fun V hV => ⟨(hV.blk k1 k1.lt (by simp)).cell 1, (hV.blk k2 k2.lt (by simp)).cell 1, (hV.blk k0 k0.lt (by simp)).cell 0⟩
  clear k0 k1 k2
  have HF := Lib.hid hf
  have HFX := Lib.hid hfx
  clear hfx hf
  refine wp_region_leftL (fun V => Frm W.heap.size [] W V) 1000 (by kernel_rfl) ?_
  have hS : Frm W.heap.size [] W W.drew := (Frm.refl _ _ W).drew
  have HS := Lib.hid hS
  clear hS
  first | (refine LeftL.tkG (v := ?_) 0 rfl HS.out ?_ ?_; rotate_left; · intro V hV; obtain ⟨z1, z2, z3⟩ := HFX.out V hV; clear hV; go_simp; rfl) | refine LeftL.tkN 0 rfl HS.out ?_
  (intro K h; go_simp; refine h _ ?_; clear h K)
  first | (refine LeftL.tkG (v := ?_) 1 rfl HS.out ?_ ?_; rotate_left; · intro V hV; obtain ⟨z1, z2, z3⟩ := HFX.out V hV; clear hV; go_simp; rfl) | refine LeftL.tkN 1 rfl HS.out ?_
  (intro K h; go_simp; refine h _ ?_; clear h K)
  first | (refine LeftL.tkG (v := ?_) 2 rfl HS.out ?_ ?_; rotate_left; · intro V hV; obtain ⟨z1, z2, z3⟩ := HFX.out V hV; clear hV; go_simp; rfl) | refine LeftL.tkN 2 rfl HS.out ?_
  (intro K h; go_simp; refine h _ ?_; clear h K)
  first | (refine LeftL.tkG (v := ?_) 3 rfl HS.out ?_ ?_; rotate_left; · intro V hV; obtain ⟨z1, z2, z3⟩ := HFX.out V hV; clear hV; go_simp; rfl) | refine LeftL.tkN 3 rfl HS.out ?_
  (intro K h; go_simp; refine h _ ?_; clear h K)
  first | (refine LeftL.tkG (v := ?_) 5 rfl HS.out ?_ ?_; rotate_left; · intro V hV; obtain ⟨z1, z2, z3⟩ := HFX.out V hV; clear hV; go_simp; rfl) | refine LeftL.tkN 5 rfl HS.out ?_
  (intro K h; go_simp; refine h _ ?_; clear h K)
  first | (refine LeftL.tkG (v := ?_) 6 rfl HS.out ?_ ?_; rotate_left; · intro V hV; obtain ⟨z1, z2, z3⟩ := HFX.out V hV; clear hV; go_simp; rfl) | refine LeftL.tkN 6 rfl HS.out ?_
  (intro K h; go_simp; refine h _ ?_; clear h K)
  refine LeftL.one 4 rfl (by kernel_rfl) ?_
  go_wp2_with fail
  refine (HCD.out _).mono ?_; rintro e w1 ⟨rfl, hf1⟩
  have hS1 := HS.out.call hf1 HS.out.size (by simp)
  clear hf1 HS
  have HS := Lib.hid hS1
  clear hS1
  go_wp2_with fail
  first | refine ⟨fun _ => HS.out, ?_⟩ | refine ⟨HS.out, ?_⟩
  refine LeftL.one 7 rfl (by kernel_rfl) ?_
  go_wp2_with fail
  first | refine ⟨fun _ => HS.out, ?_⟩ | refine ⟨HS.out, ?_⟩
  refine LeftL.one 8 rfl (by kernel_rfl) ?_
  go_wp2_with fail
  first | refine ⟨fun _ => HS.out, ?_⟩ | refine ⟨HS.out, ?_⟩
  refine LeftL.done (by kernel_rfl) ?_
  have hf := HF.out.call HS.out HF.out.size (by simp)
  clear HF HS HFX
  have HF := Lib.hid hf
  clear hf
  go_wp2_with fail
  go_ret
  exact ⟨rfl, HF.out⟩
set_option maxRecDepth 100000 in
set_option maxHeartbeats 8000000 in
theorem line4_any (wd dr : Int) (r1 r2 : Rep) (ad1 ad2 : Option Addr) (cap1 cap2 : Nat) (w : World) (hdr : 0 ≤ dr ∧ dr ≤ 100000) (ht1 : TimeOK r1.time) (ht2 : TimeOK r2.time) (hl1 : 1 ≤ r1.wh.length) (hl2 : 1 ≤ r2.wh.length) (ho1 : ∀ i, i < r1.wh.length → SpOK (spt r1.wh i)) (ho2 : ∀ i, i < r2.wh.length → SpOK (spt r2.wh i)) (b1 o1 b2 o2 : Nat) (hr1 : RwP w ad1 b1 o1 r1.wh.length r1.wh) (hr2 : RwP w ad2 b2 o2 r2.wh.length r2.wh) :
    Calls Try.prog 86 #[.agg #[.int .i64 wd, .int .i64 dr], .agg (repC r1 ad1 cap1).toArray, .agg (repC r2 ad2 cap2).toArray] w fun e w' => e = .returned (.bool (!meetB r1.wh r2.wh (byZ dr r1 r2))) ∧ Frm w.heap.size [] w w' := by
  have hf0 := Try.func86
  obtain ⟨kind1, time1, src1, abt1, wh1, souls1, trust1⟩ := r1
  obtain ⟨kind2, time2, src2, abt2, wh2, souls2, trust2⟩ := r2
  obtain ⟨n1, hn1⟩ : ∃ n, n = wh1.length := ⟨_, rfl⟩
  obtain ⟨n2, hn2⟩ : ∃ n, n = wh2.length := ⟨_, rfl⟩
  have e1 : repC ⟨kind1, time1, src1, abt1, wh1, souls1, trust1⟩ ad1 cap1 = [.int .i64 kind1, .int .i64 time1, .string src1, .string abt1, .slice ad1 n1 cap1, .int .i64 souls1, .int .i64 trust1] := by rw [hn1]; rfl
  have e2 : repC ⟨kind2, time2, src2, abt2, wh2, souls2, trust2⟩ ad2 cap2 = [.int .i64 kind2, .int .i64 time2, .string src2, .string abt2, .slice ad2 n2 cap2, .int .i64 souls2, .int .i64 trust2] := by rw [hn2]; rfl
  rw [e1, e2]
  clear e1 e2
  have hn1' := hn1
  have hn2' := hn2
  dsimp only at ht1 ht2 hl1 hl2 ho1 ho2 hr1 hr2 ⊢
  rw [← hn1] at hl1 ho1 hr1
  rw [← hn2] at hl2 ho2 hr2
  obtain ⟨d, hd⟩ : ∃ d, d = distZ time1 time2 := ⟨_, rfl⟩
  have hcd : ∀ V, Calls Try.prog 85 #[.int .i64 time1, .int .i64 time2] V fun e w' => e = .returned (.int .i64 d) ∧ Frm V.heap.size [] V w' := fun V => by rw [hd]; exact dist_F ht1 ht2 V
  have hdb : 0 ≤ d ∧ d ≤ 1073741824 := by rw [hd]; unfold distZ; unfold TimeOK at ht1 ht2; omega
  obtain ⟨m, hm⟩ : ∃ m, m = dr * d := ⟨_, rfl⟩
  have hmb : -(100000 * 1073741824) ≤ m ∧ m ≤ 100000 * 1073741824 := by rw [hm]; exact mul_abs (by omega) (by omega) (by omega)
  have hm0 : 0 ≤ m := by rw [hm]; exact Int.mul_nonneg hdr.1 hdb.1
  obtain ⟨m2, hm2⟩ : ∃ x, x = m + 3600 := ⟨_, rfl⟩
  obtain ⟨m3, hm3⟩ : ∃ x, x = m2 - 1 := ⟨_, rfl⟩
  obtain ⟨q, hq⟩ : ∃ x, x = byZ dr (⟨kind1, time1, src1, abt1, wh1, souls1, trust1⟩ : Rep) (⟨kind2, time2, src2, abt2, wh2, souls2, trust2⟩ : Rep) := ⟨_, rfl⟩
  have hq2 : q = m3 / 3600 := by rw [hq]; unfold byZ; dsimp only; rw [← hd, ← hm, show m + 3599 = m3 by omega]
  have hq3 : Int.tdiv m3 3600 = q := by rw [hq2]; exact Int.tdiv_eq_ediv_of_nonneg (by omega)
  have hqb : 0 ≤ q ∧ q ≤ 1099511627776 := by rw [hq2]; omega
  obtain ⟨v, hv⟩ : ∃ x, x = meetB wh1 wh2 q := ⟨_, rfl⟩
  have hcm : ∀ V, Frm w.heap.size [] w V → Calls Try.prog 87 #[.slice ad1 n1 cap1, .slice ad2 n2 cap2, .int .i64 q] V fun e w' => e = .returned (.bool v) ∧ Frm V.heap.size [] V w' := fun V hV => by
    rw [hv]; exact meet_any ad1 b1 o1 n1 cap1 wh1 hn1 hl1 ho1 ad2 b2 o2 n2 cap2 wh2 hn2 hl2 ho2 q hqb V (hr1.frm hV (Nat.le_refl _)) (hr2.frm hV (Nat.le_refl _))
  rw [← hq, ← hv]
  have e1 : IntKind.i64.wrap (dr * d) = m := by rw [← hm]; exact IntWalk.i64_in _ (by omega)
  have e2 : IntKind.i64.wrap (m + 3600) = m2 := by rw [← hm2]; exact IntWalk.i64_in _ (by omega)
  have e3 : IntKind.i64.wrap (m2 - 1) = m3 := by rw [← hm3]; exact IntWalk.i64_in _ (by omega)
  have e4 : IntKind.i64.wrap q = q := IntWalk.i64_in _ (by omega)
  have f1 : wrap64 (dr * d) = m := by rw [← hm]; exact IntWalk.wrap64_in _ (by omega)
  have f2 : wrap64 (m + 3600) = m2 := by rw [← hm2]; exact IntWalk.wrap64_in _ (by omega)
  have f3 : wrap64 (m2 - 1) = m3 := by rw [← hm3]; exact IntWalk.wrap64_in _ (by omega)
  have f4 : wrap64 q = q := IntWalk.wrap64_in _ (by omega)
  clear hd ht1 ht2 hdb hm hmb hm0 hm2 hm3 hq hq2 hqb hv hr1 hr2 hl1 hl2 ho1 ho2 hdr
  clear hn1' hn2'
  have HCD := Lib.hid hcd
  have HCM := Lib.hid hcm
  have HN1 := Lib.hid hn1
  have HN2 := Lib.hid hn2
  clear hn2 hn1 hcm hcd
  go_enter Try.func86, Try.ntmps86
  go_upto_region 1 with fail
  refine namedC ?_; intro W hW
  have k0 : Blk W w.heap.size 60 [.int .i64 wd, .int .i64 dr] := by rw [hW]; refine Blk.alloc' ?_; refine Blk.alloc' ?_; exact Blk.new w 60 [.int .i64 wd, .int .i64 dr]
  have k1 : Blk W (w.heap.size + 1) 24 [.int .i64 kind1, .int .i64 time1, .string src1, .string abt1, .slice ad1 n1 cap1, .int .i64 souls1, .int .i64 trust1] := by rw [hW]; refine Blk.alloc' ?_; exact Blk.new' _ 24 [.int .i64 kind1, .int .i64 time1, .string src1, .string abt1, .slice ad1 n1 cap1, .int .i64 souls1, .int .i64 trust1] (by simp)
  have k2 : Blk W (w.heap.size + 1 + 1) 24 [.int .i64 kind2, .int .i64 time2, .string src2, .string abt2, .slice ad2 n2 cap2, .int .i64 souls2, .int .i64 trust2] := by rw [hW]; exact Blk.new' _ 24 [.int .i64 kind2, .int .i64 time2, .string src2, .string abt2, .slice ad2 n2 cap2, .int .i64 souls2, .int .i64 trust2] (by simp)
  have hf : Frm w.heap.size [] w W := by rw [hW]; repeat (first | with_reducible exact Frm.refl _ _ _ | with_reducible refine Frm.drewN ?_ | with_reducible refine Frm.drew ?_ | ((with_reducible refine Frm.setCell' ?_ ?_); · first | (left; simp; done) | (right; simp; done) | (right; simp; omega)) | ((with_reducible refine Frm.alloc' ?_ ?_); · first | exact Nat.le_refl _ | (simp; done) | (simp; omega)))
  clear hW hf0
  have hfx : ∀ V, Frm W.heap.size [] W V → V.cell? ⟨w.heap.size + 1, 4, none⟩ = some (.slice ad1 n1 cap1) ∧ V.cell? ⟨w.heap.size + 1 + 1, 4, none⟩ = some (.slice ad2 n2 cap2) ∧ V.cell? ⟨w.heap.size, 1, none⟩ = some (.int .i64 dr) ∧ V.cell? ⟨w.heap.size + 1, 1, none⟩ = some (.int .i64 time1) ∧ V.cell? ⟨w.heap.size + 1 + 1, 1, none⟩ = some (.int .i64 time2) := fun V hV => ⟨(hV.blk k1 k1.lt (by simp)).cell 4, (hV.blk k2 k2.lt (by simp)).cell 4, (hV.blk k0 k0.lt (by simp)).cell 1, (hV.blk k1 k1.lt (by simp)).cell 1, (hV.blk k2 k2.lt (by simp)).cell 1⟩
  clear k0 k1 k2
  have HF := Lib.hid hf
  have HFX := Lib.hid hfx
  clear hfx hf
  refine wp_region_leftL (fun V => Frm W.heap.size [] W V) 1000 (by kernel_rfl) ?_
  have hS : Frm W.heap.size [] W W.drew := (Frm.refl _ _ W).drew
  have HS := Lib.hid hS
  clear hS
  first | (refine LeftL.tkG (v := ?_) 0 rfl HS.out ?_ ?_; rotate_left; · intro V hV; obtain ⟨z1, z2, z3, z4, z5⟩ := HFX.out V hV; clear hV; go_simp; rfl) | refine LeftL.tkN 0 rfl HS.out ?_
  (intro K h; go_simp; refine h _ ?_; clear h K)
  first | (refine LeftL.tkG (v := ?_) 1 rfl HS.out ?_ ?_; rotate_left; · intro V hV; obtain ⟨z1, z2, z3, z4, z5⟩ := HFX.out V hV; clear hV; go_simp; rfl) | refine LeftL.tkN 1 rfl HS.out ?_
  (intro K h; go_simp; refine h _ ?_; clear h K)
  first | (refine LeftL.tkG (v := ?_) 2 rfl HS.out ?_ ?_; rotate_left; · intro V hV; obtain ⟨z1, z2, z3, z4, z5⟩ := HFX.out V hV; clear hV; go_simp; rfl) | refine LeftL.tkN 2 rfl HS.out ?_
  (intro K h; go_simp; refine h _ ?_; clear h K)
  first | (refine LeftL.tkG (v := ?_) 3 rfl HS.out ?_ ?_; rotate_left; · intro V hV; obtain ⟨z1, z2, z3, z4, z5⟩ := HFX.out V hV; clear hV; go_simp; rfl) | refine LeftL.tkN 3 rfl HS.out ?_
  (intro K h; go_simp; refine h _ ?_; clear h K)
  first | (refine LeftL.tkG (v := ?_) 4 rfl HS.out ?_ ?_; rotate_left; · intro V hV; obtain ⟨z1, z2, z3, z4, z5⟩ := HFX.out V hV; clear hV; go_simp; rfl) | refine LeftL.tkN 4 rfl HS.out ?_
  (intro K h; go_simp; refine h _ ?_; clear h K)
  first | (refine LeftL.tkG (v := ?_) 5 rfl HS.out ?_ ?_; rotate_left; · intro V hV; obtain ⟨z1, z2, z3, z4, z5⟩ := HFX.out V hV; clear hV; go_simp; rfl) | refine LeftL.tkN 5 rfl HS.out ?_
  (intro K h; go_simp; refine h _ ?_; clear h K)
  first | (refine LeftL.tkG (v := ?_) 6 rfl HS.out ?_ ?_; rotate_left; · intro V hV; obtain ⟨z1, z2, z3, z4, z5⟩ := HFX.out V hV; clear hV; go_simp; rfl) | refine LeftL.tkN 6 rfl HS.out ?_
  (intro K h; go_simp; refine h _ ?_; clear h K)
  first | (refine LeftL.tkG (v := ?_) 7 rfl HS.out ?_ ?_; rotate_left; · intro V hV; obtain ⟨z1, z2, z3, z4, z5⟩ := HFX.out V hV; clear hV; go_simp; rfl) | refine LeftL.tkN 7 rfl HS.out ?_
  (intro K h; go_simp; refine h _ ?_; clear h K)
  first | (refine LeftL.tkG (v := ?_) 8 rfl HS.out ?_ ?_; rotate_left; · intro V hV; obtain ⟨z1, z2, z3, z4, z5⟩ := HFX.out V hV; clear hV; go_simp; rfl) | refine LeftL.tkN 8 rfl HS.out ?_
  (intro K h; go_simp; refine h _ ?_; clear h K)
  first | (refine LeftL.tkG (v := ?_) 9 rfl HS.out ?_ ?_; rotate_left; · intro V hV; obtain ⟨z1, z2, z3, z4, z5⟩ := HFX.out V hV; clear hV; go_simp; rfl) | refine LeftL.tkN 9 rfl HS.out ?_
  (intro K h; go_simp; refine h _ ?_; clear h K)
  refine LeftL.one 10 rfl (by kernel_rfl) ?_
  go_wp2_with fail
  refine (HCD.out _).mono ?_; rintro e w1 ⟨rfl, hf1⟩
  have hS1 := HS.out.call hf1 HS.out.size (by simp)
  clear hf1 HS
  have HS := Lib.hid hS1
  clear hS1
  go_wp2_with fail
  first | refine ⟨fun _ => HS.out, ?_⟩ | refine ⟨HS.out, ?_⟩
  refine LeftL.one 11 rfl (by kernel_rfl) ?_
  go_wp2_with fail
  first | refine ⟨fun _ => HS.out, ?_⟩ | refine ⟨HS.out, ?_⟩
  refine LeftL.one 12 rfl (by kernel_rfl) ?_
  go_wp2_with fail
  first | refine ⟨fun _ => HS.out, ?_⟩ | refine ⟨HS.out, ?_⟩
  refine LeftL.one 13 rfl (by kernel_rfl) ?_
  go_wp2_with fail
  first | refine ⟨fun _ => HS.out, ?_⟩ | refine ⟨HS.out, ?_⟩
  refine LeftL.one 14 rfl (by kernel_rfl) ?_
  go_wp2_with fail
  first | refine ⟨fun _ => HS.out, ?_⟩ | refine ⟨HS.out, ?_⟩
  refine LeftL.one 15 rfl (by kernel_rfl) ?_
  go_wp2_with fail
  refine (HCM.out _ (HF.out.call HS.out HF.out.size (by simp))).mono ?_; rintro e w1 ⟨rfl, hf1⟩
  have hS1 := HS.out.call hf1 HS.out.size (by simp)
  clear hf1 HS
  have HS := Lib.hid hS1
  clear hS1
  go_wp2_with fail
  first | refine ⟨fun _ => HS.out, ?_⟩ | refine ⟨HS.out, ?_⟩
  refine LeftL.one 16 rfl (by kernel_rfl) ?_
  go_wp2_with fail
  first | refine ⟨fun _ => HS.out, ?_⟩ | refine ⟨HS.out, ?_⟩
  refine LeftL.one 17 rfl (by kernel_rfl) ?_
  go_wp2_with fail
  first | refine ⟨fun _ => HS.out, ?_⟩ | refine ⟨HS.out, ?_⟩
  refine LeftL.done (by kernel_rfl) ?_
  have hf := HF.out.call HS.out HF.out.size (by simp)
  clear HF HS HFX
  have HF := Lib.hid hf
  clear hf
  go_wp2_with fail
  go_ret
  exact ⟨rfl, HF.out⟩
end Go.Proofs.Ythgmdilfmeefiaa
