/-
  Integers of 128 bits, by the document's functions.
-/
import Derived.Test.YtfmigicmfolbjaaDoorE1
import Derived.Test.YtfmigicmfolbjaaDoorB20
namespace Go.Proofs.YtfmigicmfolbjaaDoor
set_option linter.all false
set_option linter.unusedSimpArgs false
set_option linter.unusedVariables false
open Go.RowKit

def wideC (x : Int) : List Value := [.int .i64 (hiW x), .int .u64 (loW x)]
theorem info140 : (Tryd.prog.info? 140).map (fun i => i.size) = some 2 := by kernel_rfl
theorem wideC_one (x : Int) : ∀ u ∈ wideC x, u.oneCell' = true := by simp [wideC, Value.oneCell']
def In126 (x : Int) : Prop := -85070591730234615865843651857942052864 ≤ x ∧ x < 85070591730234615865843651857942052864
theorem hiW_126 {x : Int} (h : In126 x) : -4611686018427387904 ≤ hiW x ∧ hiW x < 4611686018427387904 := by unfold In126 at h; unfold hiW; omega
theorem u64_mod (e : Int) : IntKind.u64.wrap e = e % 18446744073709551616 := rfl
theorem xor_i64 {h : Int} (h1 : -9223372036854775808 ≤ h) (h2 : h < 9223372036854775808) : bits BinOp.xor IntKind.i64 (-1) h = -1 - h := by
  have e : bits BinOp.xor IntKind.i64 (-1) h = IntKind.i64.wrap (((BitVec.ofInt 64 (-1) ^^^ BitVec.ofInt 64 h).toNat : Nat) : Int) := rfl
  rw [e, show BitVec.ofInt 64 (-1) = BitVec.allOnes 64 from by decide, BitVec.allOnes_xor, BitVec.toNat_not, BitVec.toNat_ofInt, IntKind.wrap_i64]
  omega
theorem xor_u64 {l : Int} (h1 : 0 ≤ l) (h2 : l < 18446744073709551616) : bits BinOp.xor IntKind.u64 IntKind.u64.max l = 18446744073709551615 - l := by
  have e : bits BinOp.xor IntKind.u64 IntKind.u64.max l = IntKind.u64.wrap (((BitVec.ofInt 64 IntKind.u64.max ^^^ BitVec.ofInt 64 l).toNat : Nat) : Int) := rfl
  rw [e, show BitVec.ofInt 64 IntKind.u64.max = BitVec.allOnes 64 from by decide, BitVec.allOnes_xor, BitVec.toNat_not, BitVec.toNat_ofInt, u64_mod]
  omega
theorem loW_small {v : Int} (h : 0 ≤ v) (h2 : v < 9223372036854775808) : loW v = v ∧ hiW v = 0 := by unfold loW hiW; omega
set_option maxRecDepth 100000 in
set_option maxHeartbeats 4000000 in
theorem plus_any (x y : Int) (w : World) (hx : In126 x) (hy : In126 y) :
    Calls Tryd.prog 94 #[.agg (wideC x).toArray, .agg (wideC y).toArray] w fun e w' => e = .returned (.agg (wideC (x + y)).toArray) ∧ Frm w.heap.size [] w w' := by
  have hf0 := Tryd.func94
  have hp1 := plus_lo x y
  have hp2 := plus_hi x y
  have hxh := hiW_126 hx
  have hyh := hiW_126 hy
  have hxl := loW_in x
  have hyl := loW_in y
  obtain ⟨h1, hh1⟩ : ∃ z, z = hiW x := ⟨_, rfl⟩
  obtain ⟨l1, hl1⟩ : ∃ z, z = loW x := ⟨_, rfl⟩
  obtain ⟨h2, hh2⟩ : ∃ z, z = hiW y := ⟨_, rfl⟩
  obtain ⟨l2, hl2⟩ : ∃ z, z = loW y := ⟨_, rfl⟩
  obtain ⟨l3, hl3⟩ : ∃ z, z = loW (x + y) := ⟨_, rfl⟩
  obtain ⟨h3, hh3⟩ : ∃ z, z = hiW (x + y) := ⟨_, rfl⟩
  have e1 : wideC x = [.int .i64 h1, .int .u64 l1] := by rw [hh1, hl1]; rfl
  have e2 : wideC y = [.int .i64 h2, .int .u64 l2] := by rw [hh2, hl2]; rfl
  have e3 : wideC (x + y) = [.int .i64 h3, .int .u64 l3] := by rw [hh3, hl3]; rfl
  rw [e1, e2, e3]
  rw [← hl1, ← hl2, ← hl3] at hp1
  rw [← hl1, ← hl3, ← hh1, ← hh2, ← hh3] at hp2
  rw [← hh1] at hxh
  rw [← hh2] at hyh
  have ws : IntKind.i64.wrap (h1 + h2) = h1 + h2 := IntWalk.i64_in _ (by omega)
  have ws' : wrap64 (h1 + h2) = h1 + h2 := IntWalk.wrap64_in _ (by omega)
  have wt : IntKind.i64.wrap (h1 + h2 + 1) = h1 + h2 + 1 := IntWalk.i64_in _ (by omega)
  have wt' : wrap64 (h1 + h2 + 1) = h1 + h2 + 1 := IntWalk.wrap64_in _ (by omega)
  have wl : IntKind.u64.wrap (l1 + l2) = l3 := by rw [u64_mod]; exact hp1
  clear hx hy e1 e2 e3 hp1 hh1 hl1 hh2 hl2 hl3 hh3 hxl hyl hxh hyh
  have HP2 := Lib.hid hp2
  clear hp2
  go_enter Tryd.func94, Tryd.ntmps94
  go_upto_region 1 with fail
  refine namedC ?_; intro W hW
  have k1 : Blk W w.heap.size 140 [.int .i64 h1, .int .u64 l1] := by rw [hW]; refine Blk.alloc' ?_; refine Blk.alloc' ?_; exact Blk.new w 140 [.int .i64 h1, .int .u64 l1]
  have k2 : Blk W (w.heap.size + 1) 140 [.int .i64 h2, .int .u64 l2] := by rw [hW]; refine Blk.alloc' ?_; exact Blk.new' _ 140 [.int .i64 h2, .int .u64 l2] (by simp)
  have k3 : Blk W (w.heap.size + 1 + 1) 140 [.int .i64 0, .int .u64 0] := by rw [hW]; exact Blk.new' _ 140 [.int .i64 0, .int .u64 0] (by simp)
  have hf : Frm w.heap.size [] w W := by rw [hW]; repeat (first | with_reducible exact Frm.refl _ _ _ | with_reducible refine Frm.drewN ?_ | with_reducible refine Frm.drew ?_ | ((with_reducible refine Frm.setCell' ?_ ?_); · first | (left; simp; done) | (right; simp; done) | (right; simp; omega)) | ((with_reducible refine Frm.alloc' ?_ ?_); · first | exact Nat.le_refl _ | (simp; done) | (simp; omega)))
  clear hW hf0
  have a0 : W.cell? ⟨w.heap.size, 0, none⟩ = some (.int .i64 h1) := k1.cell 0
  have a1 : W.cell? ⟨w.heap.size, 1, none⟩ = some (.int .u64 l1) := k1.cell 1
  have a2 : W.cell? ⟨w.heap.size + 1, 0, none⟩ = some (.int .i64 h2) := k2.cell 0
  have a3 : W.cell? ⟨w.heap.size + 1, 1, none⟩ = some (.int .u64 l2) := k2.cell 1
  clear k1 k2
  have K3 := Lib.hid k3
  have HF := Lib.hid hf
  clear hf k3
  by_cases hlt : l3 < l1
  · have hd : decide (l3 < l1) = true := decide_eq_true hlt
    have he : h3 = h1 + h2 + 1 := by have := HP2.out; rw [if_pos hlt] at this; exact this
    have HE := Lib.hid he
    clear he
    go_wp2_with (with_reducible refine atStore 140 rfl ?_; refine stop_ ?_)
    refine go_on ?_
    refine wpList_storeB (P := Tryd.prog) (ty := 140) (cs := [.int .i64 (h1 + h2 + 1), .int .u64 l3]) rfl rfl K3.out rfl rfl rfl info140 (by simp [Value.oneCell']) ?_
    have hz := K3.out.row [.int .i64 (h1 + h2 + 1), .int .u64 l3]
    have hfz := HF.out.setRow (g := w.heap.size + 1 + 1) (.inr (by omega)) [Value.int .i64 (h1 + h2 + 1), .int .u64 l3].toArray
    have HZ := Lib.hid hz
    have HFZ := Lib.hid hfz
    clear hfz hz
    go_wp2_with fail
    refine bodyPost_ret (results_c Tryd.results94 HZ.out rfl Tryd.underlying140 rfl info140) rfl ?_
    exact ⟨by rw [HE.out], HFZ.out⟩
  · have hd : decide (l3 < l1) = false := decide_eq_false hlt
    have he : h3 = h1 + h2 := by have := HP2.out; rw [if_neg hlt] at this; exact this
    have HE := Lib.hid he
    clear he
    go_wp2_with (with_reducible refine atStore 140 rfl ?_; refine stop_ ?_)
    refine go_on ?_
    refine wpList_storeB (P := Tryd.prog) (ty := 140) (cs := [.int .i64 (h1 + h2), .int .u64 l3]) rfl rfl K3.out rfl rfl rfl info140 (by simp [Value.oneCell']) ?_
    have hz := K3.out.row [.int .i64 (h1 + h2), .int .u64 l3]
    have hfz := HF.out.setRow (g := w.heap.size + 1 + 1) (.inr (by omega)) [Value.int .i64 (h1 + h2), .int .u64 l3].toArray
    have HZ := Lib.hid hz
    have HFZ := Lib.hid hfz
    clear hfz hz
    go_wp2_with fail
    refine bodyPost_ret (results_c Tryd.results94 HZ.out rfl Tryd.underlying140 rfl info140) rfl ?_
    exact ⟨by rw [HE.out], HFZ.out⟩
set_option maxRecDepth 100000 in
set_option maxHeartbeats 4000000 in
theorem of_any (v : Int) (w : World) (h0 : 0 ≤ v) (h1 : v < 9223372036854775808) :
    Calls Tryd.prog 93 #[.int .i64 v] w fun e w' => e = .returned (.agg (wideC v).toArray) ∧ Frm w.heap.size [] w w' := by
  have hf0 := Tryd.func93
  have hw := loW_small h0 h1
  have e3 : wideC v = [.int .i64 0, .int .u64 v] := by unfold wideC; rw [hw.1, hw.2]
  rw [e3]
  have hn : ¬ v < 0 := by omega
  have hd : decide (v < 0) = false := decide_eq_false hn
  have wl : IntKind.u64.wrap v = v := by rw [u64_mod]; omega
  have wl2 : v % 18446744073709551616 = v := by omega
  clear hw e3 h0 h1
  go_enter Tryd.func93, Tryd.ntmps93
  go_upto_region 1 with fail
  refine namedC ?_; intro W hW
  have k3 : Blk W w.heap.size 140 [.int .i64 0, .int .u64 0] := by rw [hW]; exact Blk.new w 140 [.int .i64 0, .int .u64 0]
  have hf : Frm w.heap.size [] w W := by rw [hW]; repeat (first | with_reducible exact Frm.refl _ _ _ | with_reducible refine Frm.drewN ?_ | with_reducible refine Frm.drew ?_ | ((with_reducible refine Frm.setCell' ?_ ?_); · first | (left; simp; done) | (right; simp; done) | (right; simp; omega)) | ((with_reducible refine Frm.alloc' ?_ ?_); · first | exact Nat.le_refl _ | (simp; done) | (simp; omega)))
  clear hW hf0
  have K3 := Lib.hid k3
  have HF := Lib.hid hf
  clear hf k3
  go_wp2_with (with_reducible refine atStore 140 rfl ?_; refine stop_ ?_)
  refine go_on ?_
  refine wpList_storeB (P := Tryd.prog) (ty := 140) (cs := [.int .i64 0, .int .u64 v]) rfl rfl K3.out rfl rfl rfl info140 (by simp [Value.oneCell']) ?_
  have hz := K3.out.row [.int .i64 0, .int .u64 v]
  have hfz := HF.out.setRow (g := w.heap.size) (.inr (by omega)) [Value.int .i64 0, .int .u64 v].toArray
  have HZ := Lib.hid hz
  have HFZ := Lib.hid hfz
  clear hfz hz
  go_wp2_with fail
  refine bodyPost_ret (results_c Tryd.results93 HZ.out rfl Tryd.underlying140 rfl info140) rfl ?_
  exact ⟨rfl, HFZ.out⟩
set_option maxRecDepth 100000 in
set_option maxHeartbeats 4000000 in
theorem minus_any (x : Int) (w : World) (hx : In126 x) :
    Calls Tryd.prog 95 #[.agg (wideC x).toArray] w fun e w' => e = .returned (.agg (wideC (-x)).toArray) ∧ Frm w.heap.size [] w w' := by
  have hf0 := Tryd.func95
  have hh := hiW_126 hx
  have hl := loW_in x
  have hnh := not_hi x
  have hnl := not_lo x
  obtain ⟨h1, hh1⟩ : ∃ z, z = hiW x := ⟨_, rfl⟩
  obtain ⟨l1, hl1⟩ : ∃ z, z = loW x := ⟨_, rfl⟩
  have e1 : wideC x = [.int .i64 h1, .int .u64 l1] := by rw [hh1, hl1]; rfl
  have hpl : ∀ V, Calls Tryd.prog 94 #[.agg #[.int .i64 (-1 - h1), .int .u64 (18446744073709551615 - l1)], .agg #[.int .i64 0, .int .u64 1]] V fun e w' => e = .returned (.agg (wideC (-x)).toArray) ∧ Frm V.heap.size [] V w' := fun V => by
    have := plus_any (-1 - x) 1 V (by unfold In126 at hx ⊢; omega) (by unfold In126; omega)
    have e4 : wideC (-1 - x) = [.int .i64 (-1 - h1), .int .u64 (18446744073709551615 - l1)] := by unfold wideC; rw [← hnh, ← hnl, hh1, hl1]
    have e5 : wideC 1 = [.int .i64 0, .int .u64 1] := rfl
    rw [e4, e5, show -1 - x + 1 = -x by omega] at this
    exact this
  rw [e1]
  rw [← hh1] at hh
  rw [← hl1] at hl
  clear e1 hnh hnl hh1 hl1
  have HPL := Lib.hid hpl
  have HX := Lib.hid hx
  clear hx hpl
  go_enter Tryd.func95, Tryd.ntmps95
  go_upto_region 1 with fail
  refine namedC ?_; intro W hW
  have k1 : Blk W w.heap.size 140 [.int .i64 h1, .int .u64 l1] := by rw [hW]; refine Blk.alloc' ?_; exact Blk.new w 140 [.int .i64 h1, .int .u64 l1]
  have k3 : Blk W (w.heap.size + 1) 140 [.int .i64 0, .int .u64 0] := by rw [hW]; exact Blk.new' _ 140 [.int .i64 0, .int .u64 0] (by simp)
  have hf : Frm w.heap.size [] w W := by rw [hW]; repeat (first | with_reducible exact Frm.refl _ _ _ | with_reducible refine Frm.drewN ?_ | with_reducible refine Frm.drew ?_ | ((with_reducible refine Frm.setCell' ?_ ?_); · first | (left; simp; done) | (right; simp; done) | (right; simp; omega)) | ((with_reducible refine Frm.alloc' ?_ ?_); · first | exact Nat.le_refl _ | (simp; done) | (simp; omega)))
  clear hW hf0
  have a0 : W.cell? ⟨w.heap.size, 0, none⟩ = some (.int .i64 h1) := k1.cell 0
  have a1 : W.cell? ⟨w.heap.size, 1, none⟩ = some (.int .u64 l1) := k1.cell 1
  have n1 : bits BinOp.xor IntKind.i64 (-1) h1 = -1 - h1 := xor_i64 (by omega) (by omega)
  have n2 : bits BinOp.xor IntKind.u64 IntKind.u64.max l1 = 18446744073709551615 - l1 := xor_u64 hl.1 hl.2
  clear k1
  have K3 := Lib.hid k3
  have HF := Lib.hid hf
  clear hf k3
  go_wp2_with (with_reducible refine atStore 140 rfl ?_; refine stop_ ?_)
  refine (HPL.out W).mono ?_; rintro e w1 ⟨rfl, hf1⟩
  have k3 := hf1.blk K3.out K3.out.lt (by simp)
  have hf := HF.out.call hf1 HF.out.size (by simp)
  clear hf1 K3 HF HPL a0 a1
  have K3 := Lib.hid k3
  have HF := Lib.hid hf
  clear hf k3
  go_wp2_with (with_reducible refine atStore 140 rfl ?_; refine stop_ ?_)
  refine go_on ?_
  refine wpList_storeB (P := Tryd.prog) (ty := 140) (cs := wideC (-x)) rfl rfl K3.out rfl rfl rfl info140 (wideC_one _) ?_
  have hz := K3.out.row (wideC (-x))
  have hfz := HF.out.setRow (g := w.heap.size + 1) (.inr (by omega)) (wideC (-x)).toArray
  have HZ := Lib.hid hz
  have HFZ := Lib.hid hfz
  clear hfz hz
  go_wp2_with fail
  refine bodyPost_ret (results_c Tryd.results95 HZ.out rfl Tryd.underlying140 rfl info140) rfl ?_
  exact ⟨rfl, HFZ.out⟩
end Go.Proofs.YtfmigicmfolbjaaDoor
