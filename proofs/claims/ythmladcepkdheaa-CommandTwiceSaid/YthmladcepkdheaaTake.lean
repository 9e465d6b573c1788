/-
  '(*rising[int]).all', its closure and '(*rising[int]).take': the walk of a range over a function, of whatever node.
-/
import Derived.Test.YthmladcepkdheaaRows
import Derived.Test.YthmladcepkdheaaLib1
import Derived.Test.YthmladcepkdheaaLib2
import Derived.Sort.QuietTacIn
import Derived.RangeFuncNested
import Derived.RangeFuncBound
import Derived.RangeFuncBox
import Derived.RangeFuncCalls
import Derived.RangeFuncLeaves
import Derived.Shelf.Abstract
import Derived.Shelf.RegionOpen
import Derived.OwnWalkIn
import Derived.TacticsInMore
import Derived.LoopNIn
import Derived.LoopIn
namespace Go.Proofs.Ythmladcepkdheaa
open Go.RowKit Go.Shelf
attribute [local go_sem] Oper.semAt_some

theorem ownFrom_frm {β : Type} {n₀ B : Nat} {S : List Nat} {w₀ : World} (hn : n₀ ≤ w₀.heap.size) (hB : n₀ ≤ B) : OwnFrom B (fun (_ : β) W => Frm n₀ S w₀ W) :=
  fun _ _ _ _ hs hg hr => ⟨hg.os.trans hs.os, hg.tape.trans hs.tape, hg.output.trans hs.output, Nat.le_trans hs.size hg.size,
    fun k hk hS => (hg.block k (Nat.lt_of_lt_of_le hk (Nat.le_trans hn hs.size)) (fun e => by have := (hr k e.symm).1; omega)).trans (hs.block k hk hS)⟩

def nodeCells (now number term end_ last : Int) (asks : Value) : List Value :=
  [.int .i64 now, .bool true, .int .i64 number, .int .i64 term, .int .i64 end_, .int .i64 last, asks]

theorem blk_keep {W W' : World} {row : Option Nat} {b T : Nat} {cs : List Value} (h : Blk W b T cs) (hg : W.grownBy W' row) (hr : ∀ r, row = some r → ∃ o : Obj, W.heap[r]? = some o ∧ o.isCells = false) : Blk W' b T cs := by
  have hl := h.lt
  unfold Blk at h ⊢
  rw [hg.block b hl]
  · exact h
  · intro e
    obtain ⟨o, ho, hc⟩ := hr b e.symm
    rw [h] at ho
    cases ho
    cases hc
theorem box_keep {W W' : World} {row : Option Nat} {b T : Nat} {v : Value} (h : Boxed W b T v) (hg : W.grownBy W' row) (hr : ∀ r, row = some r → ∃ o : Obj, W.heap[r]? = some o ∧ o.isCells = false) : Boxed W' b T v :=
  blk_keep (cs := [v]) h hg hr
theorem sl_keep {W W' : World} {row : Option Nat} {E size n : Nat} {v : Value} {cs : List Value} {own : Option Nat} (h : Sl W E size v n cs own) (hg : W.grownBy W' row) (hr : ∀ r, row = some r → ∃ o : Obj, W.heap[r]? = some o ∧ o.isCells = false) : Sl W' E size v n cs own := by
  refine ⟨h.1, ?_⟩
  rcases h.2 with h0 | ⟨b, off, cap, arr, e1, e2, e3, e4⟩
  · exact .inl h0
  · refine .inr ⟨b, off, cap, arr, e1, e2, ?_, e4⟩
    have := blk_keep (W := W) (W' := W') (b := b) (T := E) (cs := arr.toList) (by unfold Blk; simpa using e3) hg hr
    unfold Blk at this
    simpa using this

/-- 'v[k:]' as the model reckons it. -/
def slDrop (v : Value) (k size : Nat) : Value :=
  match v with
  | .slice (some a) n c => .slice (some (if c = k then a else a.add (k * size))) (n - k) (c - k)
  | v => v
theorem Sl.dropped {w : World} {E size n b off cap k : Nat} {cs : List Value} {own : Option Nat} (h : Sl w E size (.slice (some ⟨b, off, none⟩) n cap) n cs own) (hk : k ≤ n) :
    Sl w E size (.slice (some (if cap = k then ⟨b, off, none⟩ else (⟨b, off, none⟩ : Addr).add (k * size))) (n - k) (cap - k)) (n - k) (cs.drop (k * size)) own := by
  refine ⟨by rw [List.length_drop, h.1, Nat.sub_mul], ?_⟩
  rcases h.2 with ⟨e, _⟩ | ⟨b', off', cap', arr, e1, e2, e3, e4, e5, e6, e7⟩
  · cases e
  · cases e1
    right
    by_cases hc : cap = k
    · refine ⟨b, off, cap - k, arr, by rw [if_pos hc], e2, e3, by omega, by omega, ?_, ?_⟩
      · rw [hc, Nat.sub_self]; simp; omega
      · have : n = k := by omega
        subst this
        rw [Nat.sub_self, Nat.zero_mul, List.take_zero, List.drop_of_length_le (by rw [h.1]; omega)]
    · have hadd : (⟨b, off, none⟩ : Addr).add (k * size) = ⟨b, off + k * size, none⟩ := by unfold Addr.add; split <;> simp_all
      refine ⟨b, off + k * size, cap - k, arr, by rw [if_neg hc, hadd], e2, e3, by omega, by omega, ?_, ?_⟩
      · rw [Nat.sub_mul, Nat.add_assoc]
        have : k * size ≤ cap * size := Nat.mul_le_mul_right _ (by omega)
        omega
      · rw [← e7, List.drop_take, List.drop_drop, Nat.sub_mul]

/-- The cells of pairs of integers. -/
def pairCells (l : List (Int × Int)) : List Value := l.flatMap fun p => [.int .i64 p.1, .int .i64 p.2]
theorem pairCells_length (l : List (Int × Int)) : (pairCells l).length = l.length * 2 := by
  induction l with
  | nil => rfl
  | cons p l ih => simp only [pairCells, List.flatMap_cons, List.length_append, List.length_cons, List.length_nil] at ih ⊢; rw [ih]; omega
theorem pairCells_append (l m : List (Int × Int)) : pairCells (l ++ m) = pairCells l ++ pairCells m := by simp [pairCells]
theorem pairCells_drop (l : List (Int × Int)) (k : Nat) : (pairCells l).drop (k * 2) = pairCells (l.drop k) := by
  induction l generalizing k with
  | nil => simp [pairCells]
  | cons p l ih =>
    cases k with
    | zero => rfl
    | succ k =>
      have := ih k
      rw [show (k + 1) * 2 = k * 2 + 1 + 1 by omega]
      simpa [pairCells] using this
theorem pairCells_fst (l : List (Int × Int)) (k : Nat) : (pairCells l)[2 * k]? = l[k]?.map (fun p => .int .i64 p.1) := by
  induction l generalizing k with
  | nil => simp [pairCells]
  | cons p l ih =>
    cases k with
    | zero => rfl
    | succ k =>
      have := ih k
      simp only [pairCells, List.flatMap_cons] at this ⊢
      rw [show 2 * (k + 1) = 2 * k + 1 + 1 by omega]
      simpa using this
theorem pairCells_snd (l : List (Int × Int)) (k : Nat) : (pairCells l)[2 * k + 1]? = l[k]?.map (fun p => .int .i64 p.2) := by
  induction l generalizing k with
  | nil => simp [pairCells]
  | cons p l ih =>
    cases k with
    | zero => rfl
    | succ k =>
      have := ih k
      simp only [pairCells, List.flatMap_cons] at this ⊢
      rw [show 2 * (k + 1) + 1 = 2 * k + 1 + 1 + 1 by omega]
      simpa using this

set_option maxHeartbeats 1000000 in
/-- '(*rising[int]).all': the pointer is boxed; the function value captures the box. -/
theorem all_in (F : Fence) (n : Nat) (h5 : F.fn 58) (hro : F.round = none) (p : Addr) (w : World) :
    CallsIn F n Try.prog 58 #[.pointer (some p)] w fun e w' => e = .returned (.func (.func 59) #[] #[.pointer (some ⟨w.heap.size, 0, none⟩)]) ∧ w' = w.alloc (.cells #[.pointer (some p)] 108) := by
  refine callsIn_of_wp Try.func58 rfl h5 ?_ hro
  simp only [Try.ntmps58, List.size_toArray, List.length_cons, List.length_nil, Nat.reduceAdd, Nat.reduceSub, Array.replicate_succ, Array.replicate_zero, List.push_toArray, List.append_toArray, List.nil_append, List.cons_append]
  gi_wp2
  go_ret
  exact ⟨rfl, rfl⟩

set_option maxRecDepth 100000 in
set_option maxHeartbeats 2000000 in
theorem all1_in (F : Fence) (n : Nat) (h8 : F.fn 59) (hro : F.round = none) (hn : 1 ≤ n) (l Bs bb oo n₀ b off cap : Nat) (zs : List (Int × Int)) (hreach : zs.length ≤ 100000) (hb : b < n₀) (J Jx : List (Int × Int) → World → Prop)
    {B : Nat} (hJ : AbidesFrom B J)
    (hY : ∀ pre x W, J pre W → pre.length < zs.length → YieldAt F (n - 1) Try.prog l #[.int .i64 x.1, .int .i64 x.2] W fun e W' =>
      (e = .returned (.bool true) ∧ J (pre ++ [x]) W' ∧ Below n₀ W W') ∨ (e = .returned (.bool false) ∧ Jx (pre ++ [x]) W'))
    (W : World) (hn₀ : n₀ ≤ W.heap.size) (hBs : W.cell? ⟨Bs, 0, none⟩ = some (.pointer (some ⟨bb, oo, none⟩))) (hBb : W.cell? ⟨bb, oo, none⟩ = some (.slice (some ⟨b, off, none⟩) zs.length cap))
    (hc : ∀ j, j < zs.length → W.cell? ⟨b, off + j * 2, none⟩ = some (.int .i64 (zs[j]?.getD (0, 0)).1) ∧ W.cell? ⟨b, off + j * 2 + 1, none⟩ = some (.int .i64 (zs[j]?.getD (0, 0)).2)) (h0 : J [] W) :
    CallsIn F n Try.prog 59 #[.func (.yield l) #[] #[], .pointer (some ⟨Bs, 0, none⟩)] W fun e W' => (∃ v, e = .returned v) ∧
      ((∃ ys, ys = zs ∧ J ys W') ∨ (∃ pre, (∃ k, k ≤ zs.length ∧ pre = zs.take k) ∧ Jx pre W')) := by
  refine callsIn_of_wp Try.func59 rfl h8 ?_ hro
  simp only [Try.ntmps59, List.size_toArray, List.length_cons, List.length_nil, Nat.reduceAdd, Nat.reduceSub, Array.replicate_succ, Array.replicate_zero, List.push_toArray, List.append_toArray, List.nil_append, List.cons_append]
  gi_wp2
  gi_loopw [4, 10] (fun _ i wr => ∃ k : Nat, k ≤ zs.length ∧ i = .int .i64 k ∧ J (zs.take k) wr ∧ Below n₀ W wr)
    (fun _ i _ => zs.length - (intOf i).toNat)
  case atStart => exact ⟨0, Nat.zero_le _, rfl, by simpa using h0, Below.refl _ _⟩
  case round =>
    obtain ⟨k, hk, rfl, hJs, hnx⟩ := hrel
    by_cases hlt : k < zs.length
    · have hcx := hc k hlt
      have e1 : zs[k]?.getD (0, 0) = zs[k] := by simp [hlt]
      have c1 := (hnx.cell (p := ⟨b, off + k * 2, none⟩) hb).trans hcx.1
      have c2 := (hnx.cell (p := ⟨b, off + k * 2 + 1, none⟩) hb).trans hcx.2
      rw [e1] at c1 c2
      have hJa : J (zs.take k) (wr.alloc (.cells #[.int .i64 zs[k].1, .int .i64 zs[k].2] 110)) := hJ _ _ _ none hJs (World.grownBy_alloc _ _ _) (by simp)
      obtain ⟨fn, tmps, assign, body, hy, hR⟩ := hY _ zs[k] _ hJa (by rw [List.length_take]; omega)
      have HE := Lib.hid (show zs.take k ++ [zs[k]] = zs.take (k + 1) from by simp)
      have hN : Below n₀ W (wr.alloc (.cells #[.int .i64 zs[k].1, .int .i64 zs[k].2] 110)) := hnx.alloc (Nat.le_trans hn₀ hnx.size) _
      clear hcx e1 hc hJa hJs hY
      gi_wp2
      refine hR.mono ?_
      rintro e W3 (⟨rfl, hJ3, hk3⟩ | ⟨rfl, hJx3⟩)
      · gi_wp2
        go_roundw
        case rel => exact ⟨k + 1, by omega, by simp, by rw [← HE.out]; exact hJ3, hN.trans hk3⟩
        case measure => simp [intOf]; omega
      · gi_wp2
        refine bodyPost_ret (results_none rfl _ _ _) rfl ?_
        exact ⟨⟨_, rfl⟩, .inr ⟨_, ⟨k + 1, by omega, HE.out⟩, hJx3⟩⟩
    · obtain rfl : k = zs.length := by omega
      gi_wp2
      go_end0
      exact ⟨⟨_, rfl⟩, .inl ⟨_, rfl, by simpa using hJs⟩⟩

set_option maxRecDepth 100000 in
set_option maxHeartbeats 1000000 in
/-- .. at the nil slice: no round. -/
theorem all1_nil_in (F : Fence) (n : Nat) (h8 : F.fn 59) (hro : F.round = none) (l Bs bb oo : Nat) (J : List (Int × Int) → World → Prop) (W : World)
    (hBs : W.cell? ⟨Bs, 0, none⟩ = some (.pointer (some ⟨bb, oo, none⟩))) (hBb : W.cell? ⟨bb, oo, none⟩ = some (.slice none 0 0)) (h0 : J [] W) :
    CallsIn F n Try.prog 59 #[.func (.yield l) #[] #[], .pointer (some ⟨Bs, 0, none⟩)] W fun e W' => (∃ v, e = .returned v) ∧ J [] W' := by
  refine callsIn_of_wp Try.func59 rfl h8 ?_ hro
  simp only [Try.ntmps59, List.size_toArray, List.length_cons, List.length_nil, Nat.reduceAdd, Nat.reduceSub, Array.replicate_succ, Array.replicate_zero, List.push_toArray, List.append_toArray, List.nil_append, List.cons_append]
  gi_wp2
  gi_loopw [4, 10] (fun _ i wr => i = .int .i64 0 ∧ J [] wr) (fun _ _ _ => 0)
  case atStart => exact ⟨rfl, h0⟩
  case round =>
    obtain ⟨rfl, hJs⟩ := hrel
    gi_wp2
    go_end0
    exact ⟨⟨_, rfl⟩, hJs⟩

theorem sl_pairs {w : World} {v : Value} {l : List (Int × Int)} {own : Option Nat} (h : Sl w 110 2 v l.length (pairCells l) own) :
    (v = .slice none 0 0 ∧ l = []) ∨ ∃ b off cap, v = .slice (some ⟨b, off, none⟩) l.length cap ∧ own = some b ∧ b < w.heap.size ∧ l.length ≤ cap ∧ cap ≤ maxLen ∧
      ∀ j, j < l.length → w.cell? ⟨b, off + j * 2, none⟩ = some (.int .i64 (l[j]?.getD (0, 0)).1) ∧ w.cell? ⟨b, off + j * 2 + 1, none⟩ = some (.int .i64 (l[j]?.getD (0, 0)).2) := by
  have hlen := pairCells_length l
  have hlt := h.lt
  rcases h.2 with ⟨e1, e2, e3⟩ | ⟨b, off, cap, arr, e1, e2, e3, e4, e5, e6⟩
  · exact .inl ⟨e1, List.eq_nil_of_length_eq_zero e2⟩
  · right
    refine ⟨b, off, cap, e1, e2, hlt b e2, e4, e5, fun j hj => ?_⟩
    subst e1
    have hc1 := h.cell (2 * j) (by omega)
    have hc2 := h.cell (2 * j + 1) (by omega)
    rw [pairCells_fst] at hc1
    rw [pairCells_snd] at hc2
    rw [show off + j * 2 = off + 2 * j by omega, show off + 2 * j + 1 = off + (2 * j + 1) by omega, hc1, hc2]
    simp [hj]

/-- The iterator hands back all of the pairs, in order, or the first k of them. -/
theorem all_stops (F : Fence) (n : Nat) (h8 : F.fn 59) (hro : F.round = none) (hn : 1 ≤ n) (Bs bb oo n₀ : Nat) (sv : Value) (zs : List (Int × Int)) (own : Option Nat) (hreach : zs.length ≤ 100000) (w : World) (hBs : Bs < w.heap.size) (hn₀ : n₀ ≤ w.heap.size)
    (hbb : bb < n₀) (hown : ∀ b, own = some b → b < n₀)
    (hc : w.cell? ⟨Bs, 0, none⟩ = some (.pointer (some ⟨bb, oo, none⟩))) (hcb : w.cell? ⟨bb, oo, none⟩ = some sv) (hI : Sl w 110 2 sv zs.length (pairCells zs) own) :
    SeqStopsK F n Try.prog 59 #[.pointer (some ⟨Bs, 0, none⟩)] (fun x : Int × Int => #[Value.int .i64 x.1, Value.int .i64 x.2]) (Below n₀) (fun ys => ys = zs)
      (fun pre => ∃ k, k ≤ zs.length ∧ pre = zs.take k) zs.length w := fun l J Jx W hW hJ _ hY h0 => by
  have hc' := (hW.cell (p := ⟨Bs, 0, none⟩) hBs).trans hc
  have hcb' := (hW.cell (p := ⟨bb, oo, none⟩) (Nat.lt_of_lt_of_le hbb hn₀)).trans hcb
  have hI' : Sl W 110 2 sv zs.length (pairCells zs) own := hI.kept fun b hb => hW.block b (Nat.lt_of_lt_of_le (hown b hb) hn₀)
  rcases sl_pairs hI' with ⟨rfl, rfl⟩ | ⟨b, off, cap, rfl, ho, hb, _, _, hcs⟩
  · exact (all1_nil_in F n h8 hro l Bs bb oo J W hc' hcb' h0).mono fun e W' ⟨he, hj⟩ => ⟨he, .inl ⟨_, rfl, hj⟩⟩
  · exact all1_in F n h8 hro hn l Bs bb oo n₀ b off cap zs hreach (hown b ho) J Jx hJ hY W (Nat.le_trans hn₀ hW.size) hc' hcb' hcs h0

/-- What 'take' comes to. -/
def Taken (w : World) (b : Nat) (now number term end_ last : Int) (l : List (Int × Int)) (own : Option Nat) (num : Int) (e : Ending) (w' : World) : Prop :=
  (e = .returned (.tuple #[.int .i64 0, .bool false]) ∧ (∀ p ∈ l, p.1 ≠ num) ∧ Frm w.heap.size [] w w') ∨
  ∃ pre x post asks', l = pre ++ x :: post ∧ (∀ p ∈ pre, p.1 ≠ num) ∧ x.1 = num ∧ e = .returned (.tuple #[.int .i64 x.2, .bool true]) ∧
    Blk w' b 96 (nodeCells now number term end_ last asks') ∧ Sl w' 110 2 asks' post.length (pairCells post) own ∧ Frm w.heap.size [b] w w'

set_option maxRecDepth 100000 in
set_option maxHeartbeats 2000000 in
theorem take_in (F : Fence) (n : Nat) (h51 : F.fn 51) (h58 : F.fn 58) (h59 : F.fn 59) (hro : F.round = none) (hn : 3 ≤ n) (b : Nat) (num : Int) (w : World) {now number term end_ last : Int} {asks : Value} {zs : List (Int × Int)} {own : Option Nat}
    (h : Blk w b 96 (nodeCells now number term end_ last asks)) (hs : Sl w 110 2 asks zs.length (pairCells zs) own) (hne : own ≠ some b) (hreach : zs.length ≤ 100000) :
    CallsIn F n Try.prog 51 #[.pointer (some ⟨b, 6, none⟩), .int .i64 num] w (Taken w b now number term end_ last zs own num) := by
  have h1 : 1 ≤ n := by omega
  refine callsIn_of_wp_marks Try.func51 rfl h51 ?_ hro
  simp only [Try.ntmps51, List.size_toArray, List.length_cons, List.length_nil, Nat.reduceAdd, Nat.reduceSub, Array.replicate_succ, Array.replicate_zero, List.push_toArray, List.append_toArray, List.nil_append, List.cons_append]
  gi_wp2_with (gi_at_call 58; refine (all_in F (n - 1) h58 hro _ _).mono ?_; rintro e w' ⟨rfl, rfl⟩)
  have hB0 : Below w.heap.size w ((((((w.alloc (Obj.cells #[Value.pointer (some ⟨b, 6, none⟩)] 108)).alloc (Obj.cells #[Value.int IntKind.i64 num] 3)).alloc (Obj.cells #[Value.int IntKind.i64 0] 3)).alloc (Obj.cells #[Value.bool false] 4)).alloc (Obj.cells #[Value.int IntKind.i64 0] 3)).alloc (Obj.cells #[Value.pointer (some ⟨b, 6, none⟩)] 108)) :=
    (((((((Below.refl _ w).alloc (Nat.le_refl _) _).alloc (by simp) _).alloc (by simp; omega) _).alloc (by simp; omega) _).alloc (by simp; omega) _).alloc (by simp; omega) _)
  have b0 := (((((Boxed.new w 108 (.pointer (some ⟨b, 6, none⟩))).alloc (Obj.cells #[Value.int IntKind.i64 num] 3)).alloc (Obj.cells #[Value.int IntKind.i64 0] 3)).alloc (Obj.cells #[Value.bool false] 4)).alloc (Obj.cells #[Value.int IntKind.i64 0] 3)).alloc (Obj.cells #[Value.pointer (some ⟨b, 6, none⟩)] 108)
  have b1 := ((((Boxed.new (w.alloc (Obj.cells #[Value.pointer (some ⟨b, 6, none⟩)] 108)) 3 (.int .i64 num)).alloc (Obj.cells #[Value.int IntKind.i64 0] 3)).alloc (Obj.cells #[Value.bool false] 4)).alloc (Obj.cells #[Value.int IntKind.i64 0] 3)).alloc (Obj.cells #[Value.pointer (some ⟨b, 6, none⟩)] 108)
  have b2 := (((Boxed.new ((w.alloc (Obj.cells #[Value.pointer (some ⟨b, 6, none⟩)] 108)).alloc (Obj.cells #[Value.int IntKind.i64 num] 3)) 3 (.int .i64 0)).alloc (Obj.cells #[Value.bool false] 4)).alloc (Obj.cells #[Value.int IntKind.i64 0] 3)).alloc (Obj.cells #[Value.pointer (some ⟨b, 6, none⟩)] 108)
  have b3 := ((Boxed.new (((w.alloc (Obj.cells #[Value.pointer (some ⟨b, 6, none⟩)] 108)).alloc (Obj.cells #[Value.int IntKind.i64 num] 3)).alloc (Obj.cells #[Value.int IntKind.i64 0] 3)) 4 (.bool false)).alloc (Obj.cells #[Value.int IntKind.i64 0] 3)).alloc (Obj.cells #[Value.pointer (some ⟨b, 6, none⟩)] 108)
  have b4 := (Boxed.new ((((w.alloc (Obj.cells #[Value.pointer (some ⟨b, 6, none⟩)] 108)).alloc (Obj.cells #[Value.int IntKind.i64 num] 3)).alloc (Obj.cells #[Value.int IntKind.i64 0] 3)).alloc (Obj.cells #[Value.bool false] 4)) 3 (.int .i64 0)).alloc (Obj.cells #[Value.pointer (some ⟨b, 6, none⟩)] 108)
  have b5 := Boxed.new (((((w.alloc (Obj.cells #[Value.pointer (some ⟨b, 6, none⟩)] 108)).alloc (Obj.cells #[Value.int IntKind.i64 num] 3)).alloc (Obj.cells #[Value.int IntKind.i64 0] 3)).alloc (Obj.cells #[Value.bool false] 4)).alloc (Obj.cells #[Value.int IntKind.i64 0] 3)) 108 (.pointer (some ⟨b, 6, none⟩))
  have hsz : ((((((w.alloc (Obj.cells #[Value.pointer (some ⟨b, 6, none⟩)] 108)).alloc (Obj.cells #[Value.int IntKind.i64 num] 3)).alloc (Obj.cells #[Value.int IntKind.i64 0] 3)).alloc (Obj.cells #[Value.bool false] 4)).alloc (Obj.cells #[Value.int IntKind.i64 0] 3)).alloc (Obj.cells #[Value.pointer (some ⟨b, 6, none⟩)] 108)).heap.size = w.heap.size + 6 := by simp
  simp only [World.size_alloc] at b1 b2 b3 b4 b5
  generalize ((((((w.alloc (Obj.cells #[Value.pointer (some ⟨b, 6, none⟩)] 108)).alloc (Obj.cells #[Value.int IntKind.i64 num] 3)).alloc (Obj.cells #[Value.int IntKind.i64 0] 3)).alloc (Obj.cells #[Value.bool false] 4)).alloc (Obj.cells #[Value.int IntKind.i64 0] 3)).alloc (Obj.cells #[Value.pointer (some ⟨b, 6, none⟩)] 108)) = W0 at *
  have hlt := h.lt
  have hslt := hs.lt
  have hs0 : Sl W0 110 2 asks zs.length (pairCells zs) own := hs.kept fun c hc => hB0.block c (hslt c hc)
  have hk0 : Blk W0 b 96 (nodeCells now number term end_ last asks) := by unfold Blk at h ⊢; rw [hB0.block b hlt]; exact h
  refine wpIn_rangeFunc_ownG hro h1 (gf := 59) (lb := #[.pointer (some ⟨w.heap.size + 1 + 1 + 1 + 1 + 1, 0, none⟩)]) rfl h59 (enters_of Try.func59 (by kernel_rfl) rfl)
    (all_stops F (n - 1) h59 hro (by omega) (w.heap.size + 1 + 1 + 1 + 1 + 1) b 6 w.heap.size _ zs own hreach W0 b5.lt (by omega) hlt hslt b5.cell (hk0.cell 6) hs0) belowK_t (belowK_b (by omega)) (Below.refl _ _) (fun _ => rfl)
    (fun pre W => ((∀ p ∈ pre, p.1 ≠ num) ∧ Boxed W w.heap.size 108 (.pointer (some ⟨b, 6, none⟩)) ∧ Boxed W (w.heap.size + 1) 3 (.int .i64 num) ∧ Boxed W (w.heap.size + 1 + 1) 3 (.int .i64 0) ∧ Boxed W (w.heap.size + 1 + 1 + 1) 4 (.bool false) ∧ Boxed W (w.heap.size + 1 + 1 + 1 + 1) 3 (.int .i64 (pre.length : Int))) ∧ Below w.heap.size w W)
    (fun c pre W => (c = .ret ∧ ∃ ini last', pre = ini ++ [last'] ∧ (∀ p ∈ ini, p.1 ≠ num) ∧ last'.1 = num ∧ Boxed W (w.heap.size + 1 + 1) 3 (.int .i64 last'.2) ∧ Boxed W (w.heap.size + 1 + 1 + 1) 4 (.bool true) ∧
      ∃ asks', Blk W b 96 (nodeCells now number term end_ last asks') ∧ Sl W 110 2 asks' (zs.length - pre.length) (pairCells (zs.drop pre.length)) own) ∧ Frm w.heap.size [b] w W)
    (OwnFrom.and (Own.from (fun s A B row hs hg hr => ⟨hs.1, box_keep hs.2.1 hg hr, box_keep hs.2.2.1 hg hr, box_keep hs.2.2.2.1 hg hr, box_keep hs.2.2.2.2.1 hg hr, box_keep hs.2.2.2.2.2 hg hr⟩) _) (ownFrom_below (Nat.le_refl _) (by omega)))
    (fun c => OwnFrom.and (Own.from (fun s A B row hs hg hr => by
      obtain ⟨hc, ini, la, q1, q2, q3, q4, q5, asks', q6, q7⟩ := hs
      exact ⟨hc, ini, la, q1, q2, q3, box_keep q4 hg hr, box_keep q5 hg hr, asks', blk_keep q6 hg hr, sl_keep q7 hg hr⟩) _) (ownFrom_frm (Nat.le_refl _) (by omega)))
    ⟨⟨by simp, b0, b1, b2, b3, b4⟩, hB0⟩
    (fun x => { tmps := #[Value.pointer (some { block := b, off := 6 }), Value.int IntKind.i64 num, Value.pointer (some { block := w.heap.size, off := 0 }), Value.pointer (some { block := w.heap.size + 1, off := 0 }), Value.pointer (some { block := w.heap.size + 1 + 1, off := 0 }), Value.pointer (some { block := w.heap.size + 1 + 1 + 1, off := 0 }),
          Value.pointer (some { block := w.heap.size + 1 + 1 + 1 + 1, off := 0 }), .int .i64 x.1, .int .i64 x.2, Value.pointer (some { block := b, off := 6 }), Value.func (Fn.func 59) #[] #[Value.pointer (some { block := w.heap.size + 1 + 1 + 1 + 1 + 1, off := 0 })],
          .int .i64 x.1, .int .i64 x.2, undef, undef, undef, undef, undef, undef, undef, undef, undef, undef, undef, undef, undef, undef, undef, undef], defers := [] }) ?assign ?body ?done ?stop
  case assign =>
    intro l x W K hK
    gi_wp2
    exact hK
  case body =>
    rintro l pre x W ⟨⟨hp, c0, c1, c2, c3, c4⟩, hB⟩ hplt
    have d0 := c0.cell
    have d1 := c1.cell
    have d2 := c2.cell
    have d3 := c3.cell
    have d4 := c4.cell
    have e2 := c2.frozen
    have e3 := c3.frozen
    have e4 := c4.frozen
    have hcast : pre.length ≤ 100000 := by omega
    by_cases hx : x.1 = num
    · have hx' : (x.1 == num) = true := by simp [hx]
      have hsW : Sl W 110 2 asks zs.length (pairCells zs) own := hs.kept fun c hc => hB.block c (hslt c hc)
      have hkW : Blk W b 96 (nodeCells now number term end_ last asks) := by unfold Blk at h ⊢; rw [hB.block b hlt]; exact h
      obtain ⟨ba, ao, cap, rfl, hob, hcl, hcm⟩ := hsW.pos (by omega)
      have HE := Lib.hid hob
      have HS := Lib.hid hsW
      have HX := Lib.hid hx
      have HK := Lib.hid hkW
      have k6 := hkW.cell 6
      have f6 := hkW.free 6
      simp only [nodeCells, List.getElem?_cons_succ, List.getElem?_cons_zero] at k6
      have l1 : (pre.length : Int) + 1 ≤ (zs.length : Int) := by omega
      have hbn : b ≠ w.heap.size + 1 + 1 + 1 + 1 := by omega
      have HNE := Lib.hid hne
      clear hob hsW hkW hx hs hs0 hk0 h hne
      unfold maxLen at hcm
      have l0 : (0 : Int) ≤ (pre.length : Int) + 1 := by omega
      have l2 : ((pre.length : Int) + 1).toNat = pre.length + 1 := by omega
      have hsz' : (⟨ba, ao, none⟩ : Addr).add ((pre.length + 1) * 2) = ⟨ba, ao + (pre.length + 1) * 2, none⟩ := by unfold Addr.add; split <;> simp_all
      by_cases hcp : cap = pre.length + 1
      · subst hcp
        gi_wp2
        refine wpIn_region_left (by kernel_rfl) ?_
        refine LeftIn.headD 7 (by kernel_rfl) (by kernel_rfl) ?_
        simp only [List.take_succ_cons, List.take_zero, List.drop_succ_cons, List.drop_zero, Nat.reduceSub]
        repeat (quiet_step_in (fail))
        refine wpQuietIn_nil ?_
        rintro _ ⟨nq, rfl⟩
        refine LeftIn.tail (by kernel_rfl) ?_
        simp only [List.drop_succ_cons, List.drop_zero]
        gi_wp2
        have KF := ((((KeepsOthers.setCell W ⟨w.heap.size + 1 + 1 + 1 + 1, 0, none⟩ (.int .i64 ((pre.length : Int) + 1))).trans (C := (W.setCell ⟨w.heap.size + 1 + 1 + 1 + 1, 0, none⟩ (.int .i64 ((pre.length : Int) + 1))).drewN (1 + nq)) ⟨Nat.le_refl _, fun _ _ h _ => h⟩).trans (KeepsOthers.setCell _ ⟨b, 6, none⟩ (.slice (some ⟨ba, ao, none⟩) 0 0))).trans (KeepsOthers.setCell _ ⟨w.heap.size + 1 + 1, 0, none⟩ (.int .i64 x.2))).trans (KeepsOthers.setCell _ ⟨w.heap.size + 1 + 1 + 1, 0, none⟩ (.bool true))
        have q2 : Boxed ((((W.setCell ⟨w.heap.size + 1 + 1 + 1 + 1, 0, none⟩ (.int .i64 ((pre.length : Int) + 1))).drewN (1 + nq)).setCell ⟨b, 6, none⟩ (.slice (some ⟨ba, ao, none⟩) 0 0)).setCell ⟨w.heap.size + 1 + 1, 0, none⟩ (.int .i64 x.2)) (w.heap.size + 1 + 1) 3 (.int .i64 x.2) :=
          Boxed.set _ (Blk.other (cs := [.int .i64 0]) (Blk.other (cs := [.int .i64 0]) c2 ⟨w.heap.size + 1 + 1 + 1 + 1, 0, none⟩ (by dsimp only; omega) _) ⟨b, 6, none⟩ (by dsimp only; omega) _)
        have q3 : Boxed ((((W.setCell ⟨w.heap.size + 1 + 1 + 1 + 1, 0, none⟩ (.int .i64 ((pre.length : Int) + 1))).drewN (1 + nq)).setCell ⟨b, 6, none⟩ (.slice (some ⟨ba, ao, none⟩) 0 0)).setCell ⟨w.heap.size + 1 + 1, 0, none⟩ (.int .i64 x.2)) (w.heap.size + 1 + 1 + 1) 4 (.bool false) :=
          Blk.other (cs := [.bool false]) (Blk.other (cs := [.bool false]) (Blk.other (cs := [.bool false]) c3 ⟨w.heap.size + 1 + 1 + 1 + 1, 0, none⟩ (by dsimp only; omega) _) ⟨b, 6, none⟩ (by dsimp only; omega) _) ⟨w.heap.size + 1 + 1, 0, none⟩ (by dsimp only; omega) _
        have kb : Blk (((W.setCell ⟨w.heap.size + 1 + 1 + 1 + 1, 0, none⟩ (.int .i64 ((pre.length : Int) + 1))).drewN (1 + nq)).setCell ⟨b, 6, none⟩ (.slice (some ⟨ba, ao, none⟩) 0 0)) b 96 (nodeCells now number term end_ last (.slice (some ⟨ba, ao, none⟩) 0 0)) :=
          Blk.set (HK.out.other ⟨w.heap.size + 1 + 1 + 1 + 1, 0, none⟩ (by dsimp only; omega) _) 6 _
        have hbd : ba < w.heap.size := hslt ba HE.out
        refine ⟨KF.from _, ⟨rfl, pre, x, rfl, hp, HX.out, Boxed.other q2 (by omega) _, Boxed.set _ q3, (.slice (some ⟨ba, ao, none⟩) 0 0), (kb.other _ (by dsimp only; omega) _).other _ (by dsimp only; omega) _, ?_⟩, ?_⟩
        · have hd := HS.out.dropped (k := pre.length + 1) (by omega)
          rw [if_pos rfl] at hd
          have e3 : (pairCells zs).drop ((pre.length + 1) * 2) = pairCells (zs.drop (pre.length + 1)) := pairCells_drop _ _
          rw [e3, Nat.sub_self, show zs.length - (pre.length + 1) = 0 from by omega] at hd
          have hnb : ∀ c, own = some c → c = ba := fun c hc => by rw [HE.out] at hc; cases hc; rfl
          have := (((hd.setCell ⟨w.heap.size + 1 + 1 + 1 + 1, 0, none⟩ (.int .i64 ((pre.length : Int) + 1)) (fun c hc => by have := hnb c hc; dsimp only; omega)).setCell (w := (W.setCell ⟨w.heap.size + 1 + 1 + 1 + 1, 0, none⟩ (.int .i64 ((pre.length : Int) + 1))).drewN (1 + nq)) ⟨b, 6, none⟩ (.slice (some ⟨ba, ao, none⟩) 0 0) (fun c hc => by have := hnb c hc; have := HNE.out; rw [HE.out] at this; simp at this; dsimp only; omega)).setCell ⟨w.heap.size + 1 + 1, 0, none⟩ (.int .i64 x.2) (fun c hc => by have := hnb c hc; dsimp only; omega)).setCell ⟨w.heap.size + 1 + 1 + 1, 0, none⟩ (.bool true) (fun c hc => by have := hnb c hc; dsimp only; omega)
          rw [List.length_append, List.length_cons, List.length_nil, show zs.length - (pre.length + (0 + 1)) = 0 from by omega]; exact this
        · have f0 : Frm w.heap.size [b] w W := Frm.of_below hB
          exact (((((f0.setCell (p := ⟨w.heap.size + 1 + 1 + 1 + 1, 0, none⟩) (.inr (by dsimp only; omega)) _).drewN (n := 1 + nq)).setCell (p := ⟨b, 6, none⟩) (.inl (by simp)) _).setCell (p := ⟨w.heap.size + 1 + 1, 0, none⟩) (.inr (by dsimp only; omega)) _).setCell (p := ⟨w.heap.size + 1 + 1 + 1, 0, none⟩) (.inr (by dsimp only; omega)) _)
      · gi_wp2
        refine wpIn_region_left (by kernel_rfl) ?_
        refine LeftIn.headD 7 (by kernel_rfl) (by kernel_rfl) ?_
        simp only [List.take_succ_cons, List.take_zero, List.drop_succ_cons, List.drop_zero, Nat.reduceSub]
        repeat (quiet_step_in (fail))
        refine wpQuietIn_nil ?_
        rintro _ ⟨nq, rfl⟩
        refine LeftIn.tail (by kernel_rfl) ?_
        simp only [List.drop_succ_cons, List.drop_zero]
        gi_wp2
        have KF := ((((KeepsOthers.setCell W ⟨w.heap.size + 1 + 1 + 1 + 1, 0, none⟩ (.int .i64 ((pre.length : Int) + 1))).trans (C := (W.setCell ⟨w.heap.size + 1 + 1 + 1 + 1, 0, none⟩ (.int .i64 ((pre.length : Int) + 1))).drewN (1 + nq)) ⟨Nat.le_refl _, fun _ _ h _ => h⟩).trans (KeepsOthers.setCell _ ⟨b, 6, none⟩ (.slice (some ⟨ba, ao + (pre.length + 1) * 2, none⟩) (zs.length - (pre.length + 1)) (cap - (pre.length + 1))))).trans (KeepsOthers.setCell _ ⟨w.heap.size + 1 + 1, 0, none⟩ (.int .i64 x.2))).trans (KeepsOthers.setCell _ ⟨w.heap.size + 1 + 1 + 1, 0, none⟩ (.bool true))
        have q2 : Boxed ((((W.setCell ⟨w.heap.size + 1 + 1 + 1 + 1, 0, none⟩ (.int .i64 ((pre.length : Int) + 1))).drewN (1 + nq)).setCell ⟨b, 6, none⟩ (.slice (some ⟨ba, ao + (pre.length + 1) * 2, none⟩) (zs.length - (pre.length + 1)) (cap - (pre.length + 1)))).setCell ⟨w.heap.size + 1 + 1, 0, none⟩ (.int .i64 x.2)) (w.heap.size + 1 + 1) 3 (.int .i64 x.2) :=
          Boxed.set _ (Blk.other (cs := [.int .i64 0]) (Blk.other (cs := [.int .i64 0]) c2 ⟨w.heap.size + 1 + 1 + 1 + 1, 0, none⟩ (by dsimp only; omega) _) ⟨b, 6, none⟩ (by dsimp only; omega) _)
        have q3 : Boxed ((((W.setCell ⟨w.heap.size + 1 + 1 + 1 + 1, 0, none⟩ (.int .i64 ((pre.length : Int) + 1))).drewN (1 + nq)).setCell ⟨b, 6, none⟩ (.slice (some ⟨ba, ao + (pre.length + 1) * 2, none⟩) (zs.length - (pre.length + 1)) (cap - (pre.length + 1)))).setCell ⟨w.heap.size + 1 + 1, 0, none⟩ (.int .i64 x.2)) (w.heap.size + 1 + 1 + 1) 4 (.bool false) :=
          Blk.other (cs := [.bool false]) (Blk.other (cs := [.bool false]) (Blk.other (cs := [.bool false]) c3 ⟨w.heap.size + 1 + 1 + 1 + 1, 0, none⟩ (by dsimp only; omega) _) ⟨b, 6, none⟩ (by dsimp only; omega) _) ⟨w.heap.size + 1 + 1, 0, none⟩ (by dsimp only; omega) _
        have kb : Blk (((W.setCell ⟨w.heap.size + 1 + 1 + 1 + 1, 0, none⟩ (.int .i64 ((pre.length : Int) + 1))).drewN (1 + nq)).setCell ⟨b, 6, none⟩ (.slice (some ⟨ba, ao + (pre.length + 1) * 2, none⟩) (zs.length - (pre.length + 1)) (cap - (pre.length + 1)))) b 96 (nodeCells now number term end_ last (.slice (some ⟨ba, ao + (pre.length + 1) * 2, none⟩) (zs.length - (pre.length + 1)) (cap - (pre.length + 1)))) :=
          Blk.set (HK.out.other ⟨w.heap.size + 1 + 1 + 1 + 1, 0, none⟩ (by dsimp only; omega) _) 6 _
        have hbd : ba < w.heap.size := hslt ba HE.out
        refine ⟨KF.from _, ⟨rfl, pre, x, rfl, hp, HX.out, Boxed.other q2 (by omega) _, Boxed.set _ q3, (.slice (some ⟨ba, ao + (pre.length + 1) * 2, none⟩) (zs.length - (pre.length + 1)) (cap - (pre.length + 1))), (kb.other _ (by dsimp only; omega) _).other _ (by dsimp only; omega) _, ?_⟩, ?_⟩
        · have hd := HS.out.dropped (k := pre.length + 1) (by omega)
          rw [if_neg hcp, hsz'] at hd
          have e3 : (pairCells zs).drop ((pre.length + 1) * 2) = pairCells (zs.drop (pre.length + 1)) := pairCells_drop _ _
          rw [e3] at hd
          have hnb : ∀ c, own = some c → c = ba := fun c hc => by rw [HE.out] at hc; cases hc; rfl
          have := (((hd.setCell ⟨w.heap.size + 1 + 1 + 1 + 1, 0, none⟩ (.int .i64 ((pre.length : Int) + 1)) (fun c hc => by have := hnb c hc; dsimp only; omega)).setCell (w := (W.setCell ⟨w.heap.size + 1 + 1 + 1 + 1, 0, none⟩ (.int .i64 ((pre.length : Int) + 1))).drewN (1 + nq)) ⟨b, 6, none⟩ (.slice (some ⟨ba, ao + (pre.length + 1) * 2, none⟩) (zs.length - (pre.length + 1)) (cap - (pre.length + 1))) (fun c hc => by have := hnb c hc; have := HNE.out; rw [HE.out] at this; simp at this; dsimp only; omega)).setCell ⟨w.heap.size + 1 + 1, 0, none⟩ (.int .i64 x.2) (fun c hc => by have := hnb c hc; dsimp only; omega)).setCell ⟨w.heap.size + 1 + 1 + 1, 0, none⟩ (.bool true) (fun c hc => by have := hnb c hc; dsimp only; omega)
          rw [List.length_append, List.length_cons, List.length_nil]; exact this
        · have f0 : Frm w.heap.size [b] w W := Frm.of_below hB
          exact (((((f0.setCell (p := ⟨w.heap.size + 1 + 1 + 1 + 1, 0, none⟩) (.inr (by dsimp only; omega)) _).drewN (n := 1 + nq)).setCell (p := ⟨b, 6, none⟩) (.inl (by simp)) _).setCell (p := ⟨w.heap.size + 1 + 1, 0, none⟩) (.inr (by dsimp only; omega)) _).setCell (p := ⟨w.heap.size + 1 + 1 + 1, 0, none⟩) (.inr (by dsimp only; omega)) _)
    · have hx' : (x.1 == num) = false := by simp [hx]
      have HX := Lib.hid hx
      clear hx
      gi_wp2
      refine ⟨(KeepsOthers.setCell _ _ _).from _, (Below.refl _ W).setCell (p := ⟨w.heap.size + 1 + 1 + 1 + 1, 0, none⟩) (by dsimp only; omega) _, ⟨fun p hp' => ?_, Boxed.other c0 (by omega) _, Boxed.other c1 (by omega) _, Boxed.other c2 (by omega) _, Boxed.other c3 (by omega) _, ?_⟩, hB.setCell (p := ⟨w.heap.size + 1 + 1 + 1 + 1, 0, none⟩) (by dsimp only; omega) _⟩
      · rcases List.mem_append.1 hp' with h | h
        · exact hp p h
        · simp at h; subst h; exact HX.out
      · rw [List.length_append, List.length_cons, List.length_nil]
        exact Boxed.set _ c4
  case done =>
    rintro D ys W hD rfl ⟨⟨hp, c0, c1, c2, c3, c4⟩, hB⟩ hK
    have d2 := c2.cell
    have d3 := c3.cell
    have e2 := c2.frozen
    have e3 := c3.frozen
    have HP := Lib.hid hp
    clear hp
    gi_wp2
    have hK' := ((KeepsOthers.setCell W ⟨w.heap.size + 1 + 1, 0, none⟩ (.int .i64 0)).trans (KeepsOthers.setCell _ ⟨w.heap.size + 1 + 1 + 1, 0, none⟩ (.bool false))).same D _ hK rfl
    have r2 := box_keep (Boxed.other (Boxed.set (.int .i64 0) c2) (show w.heap.size + 1 + 1 ≠ w.heap.size + 1 + 1 + 1 by omega) (.bool false)) (grownBy_putObj' _ D (.deferred none)) (fun r e => by cases e; exact ⟨_, hK', rfl⟩)
    have r3 := box_keep (Boxed.set (.bool false) (Boxed.other c3 (show w.heap.size + 1 + 1 + 1 ≠ w.heap.size + 1 + 1 by omega) (.int .i64 0))) (grownBy_putObj' _ D (.deferred none)) (fun r e => by cases e; exact ⟨_, hK', rfl⟩)
    refine ⟨by simp, .inl ⟨_, _, rfl, run_takeDeferred hK', ?_⟩⟩
    have g2 := r2.cell
    have g3 := r3.cell
    refine ⟨.tuple #[.int .i64 0, .bool false], ?_, .inl ⟨rfl, HP.out, ?_⟩⟩
    · simp [results, Try.f51, go_sem, g2, g3]
    · exact Frm.of_below (((hB.setCell (p := ⟨w.heap.size + 1 + 1, 0, none⟩) (by dsimp only; omega) _).setCell (p := ⟨w.heap.size + 1 + 1 + 1, 0, none⟩) (by dsimp only; omega) _).trans (belowK_b (w := w) (Nat.le_refl _) _ D _ _ (by omega) hK' rfl rfl))
  case stop =>
    rintro D c pre W hD ⟨k, hk, rfl⟩ ⟨⟨rfl, ini, la, q1, q2, q3, q4, q5, asks', q6, q7⟩, hB⟩ hK
    have hrow : ∀ r, some D = some r → ∃ o : Obj, W.heap[r]? = some o ∧ o.isCells = false := fun r e => by cases e; exact ⟨_, hK, rfl⟩
    have r4 := box_keep q4 (grownBy_putObj' _ D (.deferred none)) hrow
    have r5 := box_keep q5 (grownBy_putObj' _ D (.deferred none)) hrow
    have r6 := blk_keep q6 (grownBy_putObj' _ D (.deferred none)) hrow
    have r7 := sl_keep q7 (grownBy_putObj' _ D (.deferred none)) hrow
    have Q1 := Lib.hid q1
    have Q3 := Lib.hid q3
    clear q1 q3
    gi_wp2
    refine ⟨by simp, .inl ⟨_, _, rfl, run_takeDeferred hK, ?_⟩⟩
    have g4 := r4.cell
    have g5 := r5.cell
    have ez : zs = ini ++ la :: zs.drop k := by
      have := List.take_append_drop k zs
      rw [Q1.out] at this
      simpa using this.symm
    have el : (zs.take k).length = k := by rw [List.length_take]; omega
    refine ⟨.tuple #[.int .i64 la.2, .bool true], ?_, .inr ⟨ini, la, zs.drop k, asks', ez, q2, Q3.out, rfl, r6, ?_, ?_⟩⟩
    · simp [results, Try.f51, go_sem, g4, g5]
    · rw [el] at r7
      rw [List.length_drop]
      exact r7
    · exact hB.trans (Frm.of_below (belowK_b (w := w) (Nat.le_refl _) W D _ _ (by omega) hK rfl rfl))

theorem take_any (b : Nat) (num : Int) (w : World) {now number term end_ last : Int} {asks : Value} {zs : List (Int × Int)} {own : Option Nat}
    (h : Blk w b 96 (nodeCells now number term end_ last asks)) (hs : Sl w 110 2 asks zs.length (pairCells zs) own) (hne : own ≠ some b) (hreach : zs.length ≤ 100000) :
    Calls Try.prog 51 #[.pointer (some ⟨b, 6, none⟩), .int .i64 num] w (Taken w b now number term end_ last zs own num) :=
  (callsIn_wide (n := 3)).1 (take_in Fence.wide 3 trivial trivial trivial rfl (by omega) b num w h hs hne hreach)
end Go.Proofs.Ythmladcepkdheaa
