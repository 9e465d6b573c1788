/-
  Two flights, opened; whether two places are surely apart.
-/
import Derived.Test.YtghkfopcjdkieaaDoorP1
import Derived.Test.YtghkfopcjdkieaaDoorOpenL
import Derived.Test.YtghkfopcjdkieaaDoorLawBoxes
import Derived.Test.YtghkfopcjdkieaaDoorOpenT
import Derived.Test.YtghkfopcjdkieaaDoorA1
namespace Go.Proofs.YtghkfopcjdkieaaDoor
open Go.ChangeShapes Go.WideShapes Go.ChangeAt Go.RowKit
set_option maxRecDepth 100000

attribute [local go_sem ↓ high] run_min_ run_max_ run_min2 run_max2

def smallP (x : Int) : Prop := -33554432 ≤ x ∧ x ≤ 33554432
set_option maxHeartbeats 8000000 in
theorem far_any (ax ay bx by_ cx cy dx dy n : Int) (w : World) (h0 : smallP ax ∧ smallP ay ∧ smallP bx ∧ smallP by_) (h1 : smallP cx ∧ smallP cy ∧ smallP dx ∧ smallP dy) :
    Calls Tryd.prog 38 #[.agg #[.int .i64 ax, .int .i64 ay], .agg #[.int .i64 bx, .int .i64 by_], .agg #[.int .i64 cx, .int .i64 cy], .agg #[.int .i64 dx, .int .i64 dy], .int .i64 n] w fun e w' => e = .returned (.bool (farB (ax, ay) (bx, by_) (cx, cy) (dx, dy) n)) ∧ Frm w.heap.size [] w w' := by
  have hf0 := Tryd.func38
  unfold smallP at h0 h1
  have w1 : IntKind.i64.wrap (bx - cx) = bx - cx := IntWalk.i64_in _ (by omega)
  have w2 : IntKind.i64.wrap (dx - ax) = dx - ax := IntWalk.i64_in _ (by omega)
  have w3 : IntKind.i64.wrap (by_ - cy) = by_ - cy := IntWalk.i64_in _ (by omega)
  have w4 : IntKind.i64.wrap (dy - ay) = dy - ay := IntWalk.i64_in _ (by omega)
  have v1 : wrap64 (bx - cx) = bx - cx := IntWalk.wrap64_in _ (by omega)
  have v2 : wrap64 (dx - ax) = dx - ax := IntWalk.wrap64_in _ (by omega)
  have v3 : wrap64 (by_ - cy) = by_ - cy := IntWalk.wrap64_in _ (by omega)
  have v4 : wrap64 (dy - ay) = dy - ay := IntWalk.wrap64_in _ (by omega)
  clear h0 h1
  go_enter Tryd.func38, Tryd.ntmps38
  go_upto_region 1 with fail
  refine namedC ?_; intro W hW
  have h5 : Blk W w.heap.size 23 [.int .i64 ax, .int .i64 ay] := by rw [hW]; repeat (first | exact Blk.new w 23 [.int .i64 ax, .int .i64 ay] | refine Blk.alloc' ?_)
  have h6 : Blk W (w.heap.size + 1) 23 [.int .i64 bx, .int .i64 by_] := by rw [hW]; repeat (first | exact Blk.new' _ 23 [.int .i64 bx, .int .i64 by_] (by simp) | refine Blk.alloc' ?_)
  have h7 : Blk W (w.heap.size + 2) 23 [.int .i64 cx, .int .i64 cy] := by rw [hW]; repeat (first | exact Blk.new' _ 23 [.int .i64 cx, .int .i64 cy] (by simp) | refine Blk.alloc' ?_)
  have h8 : Blk W (w.heap.size + 3) 23 [.int .i64 dx, .int .i64 dy] := by rw [hW]; repeat (first | exact Blk.new' _ 23 [.int .i64 dx, .int .i64 dy] (by simp) | refine Blk.alloc' ?_)
  have hf : Frm w.heap.size [] w W := by rw [hW]; repeat (first | with_reducible exact Frm.refl _ _ _ | with_reducible refine Frm.drewN ?_ | with_reducible refine Frm.drew ?_ | ((with_reducible refine Frm.setCell' ?_ ?_); · first | (left; simp; done) | (right; simp; done) | (right; simp; omega)) | ((with_reducible refine Frm.alloc' ?_ ?_); · first | exact Nat.le_refl _ | (simp; done) | (simp; omega)))
  clear hW hf0
  have c0 : W.cell? ⟨w.heap.size, 0, none⟩ = some (.int .i64 ax) := h5.cell 0
  have c1 : W.cell? ⟨w.heap.size, 1, none⟩ = some (.int .i64 ay) := h5.cell 1
  have c2 : W.cell? ⟨w.heap.size + 1, 0, none⟩ = some (.int .i64 bx) := h6.cell 0
  have c3 : W.cell? ⟨w.heap.size + 1, 1, none⟩ = some (.int .i64 by_) := h6.cell 1
  have c4 : W.cell? ⟨w.heap.size + 2, 0, none⟩ = some (.int .i64 cx) := h7.cell 0
  have c5 : W.cell? ⟨w.heap.size + 2, 1, none⟩ = some (.int .i64 cy) := h7.cell 1
  have c6 : W.cell? ⟨w.heap.size + 3, 0, none⟩ = some (.int .i64 dx) := h8.cell 0
  have c7 : W.cell? ⟨w.heap.size + 3, 1, none⟩ = some (.int .i64 dy) := h8.cell 1
  clear h5 h6 h7 h8
  have HF := Lib.hid hf
  clear hf
  by_cases hx : n < max (bx - cx) (dx - ax)
  · go_wp2_with fail
    go_ret
    exact ⟨by simp [farB, hx], HF.out⟩
  · by_cases hy : n < max (by_ - cy) (dy - ay)
    · go_wp2_with fail
      go_ret
      exact ⟨by simp [farB, hx, hy], HF.out⟩
    · go_wp2_with fail
      go_ret
      exact ⟨by simp [farB, hx, hy], HF.out⟩

/-- A flight's cells. -/
def flightC (u : UC) (a : Option Addr) (n cap : Nat) : List Value := u.cells ++ [.slice a n cap]
theorem cells62 : Tryd.prog.cellsOf 62 = 13 := by kernel_rfl
theorem cells39 : Tryd.prog.cellsOf 39 = 1 := by kernel_rfl
theorem leaves62 : Tryd.prog.cellTypes Tryd.prog.depth 62 = some [9, 3, 3, 3, 3, 3, 3, 3, 3, 3, 3, 3, 39] := by kernel_rfl
theorem list13 {α : Type} {l : List α} (h : l.length = 13) : ∃ a b c d e f g i j k m n o, l = [a, b, c, d, e, f, g, i, j, k, m, n, o] := by
  match l, h with
  | [a, b, c, d, e, f, g, i, j, k, m, n, o], _ => exact ⟨a, b, c, d, e, f, g, i, j, k, m, n, o, rfl⟩
theorem load_flight {W : World} {T : Nat} {u : UC} {a : Option Addr} {n cap : Nat} (h : Blk W T 62 (flightC u a n cap)) : (loadVar 25 ⟨T, 0, none⟩).run Tryd.prog W = .ok (.agg u.cells.toArray) W :=
  run_loadVar_mid W T 0 25 u.cells _ (fun j v hv => by
    have := h.cell j
    unfold flightC at this
    rw [Nat.zero_add, this, List.getElem?_append_left (List.getElem?_eq_some_iff.1 hv).1]
    exact hv) Tryd.underlying25 rfl (UC.info u)
theorem open_flight {H : Type} {enc : TypeId × Value → H} {W : World} {v : Value} {d : DataW H} {p : List MemPlace} {r : Reach} {base : Nat} (hv : Value.okWide Tryd.prog W r base 62 v) (h : DataW.Trod enc Tryd.prog W 0 (fun _ => true) true 62 v d p) :
    ∃ (u : UC) (s : ByteArray), ∃ a b off n cap, ∃ L : Nat → LC, v = .agg (flightC u a n cap).toArray ∧ u.name = .string s ∧ Rw W 8 a b off n fun i => (L i).cells := by
  have hv' : ∃ cs, v = .agg cs ∧ cs.size = Tryd.prog.cellsOf 62 ∧ Row.okWide Tryd.prog W r base 62 cs := by simpa only [Value.okWide, Tryd.underlying62] using hv
  obtain ⟨⟨l⟩, rfl, hsz, ts, hts, _, hc⟩ := hv'
  rw [cells62] at hsz
  obtain rfl := Option.some.inj (leaves62.symm.trans hts)
  obtain ⟨a, b, c, d, e, f, g, i, j, k, m, n, o, rfl⟩ := list13 (show l.length = 13 from hsz)
  obtain ⟨_, ea, ha⟩ := hc 0 a rfl
  obtain ⟨_, eb, hb⟩ := hc 1 b rfl
  obtain ⟨_, ec, hc'⟩ := hc 2 c rfl
  obtain ⟨_, ed, hd⟩ := hc 3 d rfl
  obtain ⟨_, ee, he⟩ := hc 4 e rfl
  obtain ⟨_, ef, hf⟩ := hc 5 f rfl
  obtain ⟨_, eg, hg⟩ := hc 6 g rfl
  obtain ⟨_, ei, hi⟩ := hc 7 i rfl
  obtain ⟨_, ej, hj⟩ := hc 8 j rfl
  obtain ⟨_, ek, hk⟩ := hc 9 k rfl
  obtain ⟨_, em, hm⟩ := hc 10 m rfl
  obtain ⟨_, en, hn⟩ := hc 11 n rfl
  obtain ⟨_, eo, ho⟩ := hc 12 o rfl
  cases ea; cases eb; cases ec; cases ed; cases ee; cases ef; cases eg; cases ei; cases ej; cases ek; cases em; cases en; cases eo
  obtain ⟨s, rfl⟩ := leaf_str ha
  obtain ⟨_, rfl⟩ := leaf_int hb
  obtain ⟨_, rfl⟩ := leaf_int hc'
  obtain ⟨_, rfl⟩ := leaf_int hd
  obtain ⟨_, rfl⟩ := leaf_int he
  obtain ⟨_, rfl⟩ := leaf_int hf
  obtain ⟨_, rfl⟩ := leaf_int hg
  obtain ⟨_, rfl⟩ := leaf_int hi
  obtain ⟨_, rfl⟩ := leaf_int hj
  obtain ⟨_, rfl⟩ := leaf_int hk
  obtain ⟨_, rfl⟩ := leaf_int hm
  obtain ⟨_, rfl⟩ := leaf_int hn
  have ho' : Value.okWide Tryd.prog W r base 39 o := by simpa only [Value.okWide, Tryd.underlying39] using ho
  obtain ⟨q, hq⟩ := h
  obtain ⟨xs, n', _, _, hl, hlen2, hfl⟩ := DataW.trod_struct Tryd.underlying62 hq
  obtain ⟨y0, y1, rfl⟩ := list2 (show xs.length = 2 from hlen2)
  have k1 := hfl 1 _ rfl
  change DataW.trod enc Tryd.prog W 0 (fun _ => true) true n' 39 (List.take (Tryd.prog.cellsOf 39) (List.drop 12 _)) = some y1 at k1
  rw [cells39] at k1
  replace k1 : DataW.trod enc Tryd.prog W 0 (fun _ => true) true n' 39 [o] = some y1 := k1
  have ho3 := ho'
  obtain ⟨oa, ol, oc, rfl⟩ := okWide_slice Tryd.underlying39 ho3
  obtain ⟨ra, rn, rcap, rb, roff, L, e1, h1⟩ := open_legs (d := y1.1) (p := y1.2) ho' ⟨n', k1⟩
  cases e1
  exact ⟨⟨.string s, _, _, _, _, _, _, _, _, _, _, _⟩, s, _, rb, roff, _, _, L, rfl, rfl, h1⟩
theorem cells63 : Tryd.prog.cellsOf 63 = 2 := by kernel_rfl
theorem leaves63 : Tryd.prog.cellTypes Tryd.prog.depth 63 = some [5, 5] := by kernel_rfl
theorem cells5 : Tryd.prog.cellsOf 5 = 1 := by kernel_rfl
theorem wf8 {n : Int} (h : (Lit.int .u8 n).wf = true) : ∃ m : Nat, n = m ∧ m < 256 := by
  simp only [Lit.wf, Bool.and_eq_true, decide_eq_true_eq] at h
  have h1 : (0 : Int) ≤ n := h.1
  have h2 : n ≤ 255 := h.2
  exact ⟨n.toNat, by omega, by omega⟩
theorem open_pieces {H : Type} {enc : TypeId × Value → H} {W : World} {v : Value} {d : DataW H} {pl : List MemPlace} {r : Reach} {base : Nat} (hv : Value.okWide Tryd.prog W r base 63 v) (h : DataW.Trod enc Tryd.prog W 0 (fun _ => true) true 63 v d pl) : ∃ p q : Nat, v = .agg #[.int .u8 p, .int .u8 q] ∧ p < 256 ∧ q < 256 := by
  have hv' : ∃ cs, v = .agg cs ∧ cs.size = Tryd.prog.cellsOf 63 ∧ Row.okWide Tryd.prog W r base 63 cs := by simpa only [Value.okWide, Tryd.underlying63] using hv
  obtain ⟨⟨l⟩, rfl, hsz, _⟩ := hv'
  rw [cells63] at hsz
  obtain ⟨a, b, rfl⟩ := list2 (show l.length = 2 from hsz)
  obtain ⟨m, hm⟩ := h
  obtain ⟨xs, m1, _, hx1, hlen, hn2, hel⟩ := DataW.trod_array Tryd.underlying63 hm
  rw [cells5] at hel
  obtain ⟨x0, x1, rfl⟩ := list2 hn2
  have h0 : DataW.trod enc Tryd.prog W 0 (fun _ => true) true m1 5 [a] = some x0 := hel 0 (by decide)
  have h1 : DataW.trod enc Tryd.prog W 0 (fun _ => true) true m1 5 [b] = some x1 := hel 1 (by decide)
  obtain ⟨k0, e0, _, w0⟩ := DataW.trod_int Tryd.underlying5 h0
  obtain ⟨k1, e1, _, w1⟩ := DataW.trod_int Tryd.underlying5 h1
  obtain ⟨rfl, _⟩ := List.cons.inj e0
  obtain ⟨rfl, _⟩ := List.cons.inj e1
  obtain ⟨m0, rfl, j0⟩ := wf8 w0
  obtain ⟨m1, rfl, j1⟩ := wf8 w1
  exact ⟨m0, m1, rfl, j0, j1⟩
end Go.Proofs.YtghkfopcjdkieaaDoor
