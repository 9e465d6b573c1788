/-
  Whole structs in boxes, known as one list of cells: loads and stores of them all at once; the world behind a part of a walk made a name.
-/
import Derived.Test.YtghkfopcjdkieaaDoorLib1
import Derived.Test.YtghkfopcjdkieaaDoorLib2
import Derived.Laws.Tables
import Derived.Laws.Rows
import Derived.OrdersHeld
namespace Go.Proofs.YtghkfopcjdkieaaDoor
set_option linter.all false
set_option linter.unusedSimpArgs false
set_option linter.unusedVariables false
open Go.RowKit

section
variable {P : Program}

/-- From here on the world has a name. -/
theorem named {K : Act → World → Prop} {a : Act} {w : World} (h : ∀ W, W = w → K a W) : K a w := h w rfl
theorem namedL {ops : Array Oper} {Q : Exit → Act → World → Prop} {l : List Oper} {a : Act} {w : World} (h : ∀ W, W = w → wpList P ops Q l a W) : wpList P ops Q l a w := h w rfl

/-- (A look at the form of the next operation.) -/
theorem atLoad {ops : Array Oper} {Q : Exit → Act → World → Prop} {o : Oper} {rest : List Oper} {a : Act} {w : World} (ty : TypeId) {x : Operand} (_ : o.op = .load ty x) (h : wpList P ops Q (o :: rest) a w) : wpList P ops Q (o :: rest) a w := h
theorem atStore {ops : Array Oper} {Q : Exit → Act → World → Prop} {o : Oper} {rest : List Oper} {a : Act} {w : World} (ty : TypeId) {x y : Operand} (_ : o.op = .store ty x y) (h : wpList P ops Q (o :: rest) a w) : wpList P ops Q (o :: rest) a w := h

abbrev rowB : TypeDesc → Bool := fun d => match d with | .struct _ | .array _ _ => true | _ => false

theorem wpList_loadB {ops : Array Oper} {rest : List Oper} {o : Oper} {a : Act} {w : World} {Q : Exit → Act → World → Prop} (hgd : o.guard = none) {ty : TypeId} {x : Operand} (ho : o.op = .load ty x)
    {b T : Nat} {cs : List Value} (hb : Blk w b T cs) (hx : a.eval x = .pointer (some ⟨b, 0, none⟩)) {d : TypeDesc} (hu : P.underlying ty = some d) (hd : rowB d = true) (hi : (P.info? ty).map (·.size) = some cs.length)
    (h : wpList P ops Q rest (a.put o.dst (.agg cs.toArray)) w) : wpList P ops Q (o :: rest) a w :=
  wpList_load_row hgd ty x ho b hx T cs.toArray (0, 0) d hb hu (by cases d <;> simp_all) (by simpa using hi) h

theorem wpList_storeB {ops : Array Oper} {rest : List Oper} {o : Oper} {a : Act} {w : World} {Q : Exit → Act → World → Prop} (hgd : o.guard = none) {ty : TypeId} {x y : Operand} (ho : o.op = .store ty x y)
    {b T : Nat} {old cs : List Value} (hb : Blk w b T old) (hx : a.eval x = .pointer (some ⟨b, 0, none⟩)) (hy : a.eval y = .agg cs.toArray) (hl : old.length = cs.length) (hi : (P.info? ty).map (·.size) = some cs.length)
    (h1 : ∀ v ∈ cs, v.oneCell' = true) (h : wpList P ops Q rest (a.put o.dst undef) (w.setRow b cs.toArray)) : wpList P ops Q (o :: rest) a w :=
  wpList_store_row hgd ty x y ho b cs.toArray hx hy T old.toArray hb (by simpa using hi) (by simpa using hl) (by simpa [Array.all_eq_true_iff_forall_mem] using h1) h

theorem Blk.row {w : World} {b T : Nat} {old : List Value} (h : Blk w b T old) (cs : List Value) : Blk (w.setRow b cs.toArray) b T cs := setRow_heap w b _ _ T _ h
theorem Blk.row_other {w : World} {b T g : Nat} {old : List Value} (h : Blk w b T old) (cs : Array Value) (hne : g ≠ b) : Blk (w.setRow g cs) b T old := by
  exact (setRow_other w g b cs (Ne.symm hne)).trans h

/-- A result that lies in a cell: the struct whole. -/
theorem loadVarB {w : World} {b T : Nat} {cs : List Value} (hb : Blk w b T cs) {ty : TypeId} {d : TypeDesc} (hu : P.underlying ty = some d) (hd : rowB d = true) (hi : (P.info? ty).map (·.size) = some cs.length) :
    (loadVar ty ⟨b, 0, none⟩).run P w = .ok (.agg cs.toArray) w :=
  run_loadVar_row w b T ty cs.toArray (0, 0) d hb hu (by cases d <;> simp_all) (by simpa using hi)

theorem Blk.other' {w : World} {b T : Nat} {cs : List Value} {a : Addr} {v : Value} (hne : a.block ≠ b) (h : Blk w b T cs) : Blk (w.setCell a v) b T cs := h.other a hne v
theorem Blk.rowO {w : World} {b T g : Nat} {old : List Value} {cs : Array Value} (hne : g ≠ b) (h : Blk w b T old) : Blk (w.setRow g cs) b T old := h.row_other cs hne
theorem Frm.setRow' {B : Nat} {S : List Nat} {a w : World} {g : Nat} {cs : Array Value} (hp : g ∈ S ∨ B ≤ g) (h : Frm B S a w) : Frm B S a (w.setRow g cs) := h.setRow hp cs
theorem Blk.alloc' {w : World} {b T : Nat} {cs : List Value} {o : Obj} (h : Blk w b T cs) : Blk (w.alloc o) b T cs := h.alloc o

theorem results_c {fn : Func} {p : Tmp} {ty : TypeId} (h : fn.results = #[.cell p ty]) {tmps : Array Value} {w : World} {b T : Nat} {cs : List Value} (hb : Blk w b T cs) (hp : tmps.getD p undef = .pointer (some ⟨b, 0, none⟩))
    {d : TypeDesc} (hu : P.underlying ty = some d) (hd : rowB d = true) (hi : (P.info? ty).map (·.size) = some cs.length) :
    (results fn tmps).run P w = .ok (.agg cs.toArray) w := by
  have hp' : tmps[p]?.getD undef = .pointer (some ⟨b, 0, none⟩) := by simpa using hp
  simp [results, h, hp', asAddr, loadVarB hb hu hd hi]
theorem results_ct {fn : Func} {p q : Tmp} {ty : TypeId} (h : fn.results = #[.cell p ty, .tmp q]) {tmps : Array Value} {w : World} {b T : Nat} {cs : List Value} (hb : Blk w b T cs) (hp : tmps.getD p undef = .pointer (some ⟨b, 0, none⟩))
    {d : TypeDesc} (hu : P.underlying ty = some d) (hd : rowB d = true) (hi : (P.info? ty).map (·.size) = some cs.length) :
    (results fn tmps).run P w = .ok (.tuple #[.agg cs.toArray, tmps.getD q undef]) w := by
  have hp' : tmps[p]?.getD undef = .pointer (some ⟨b, 0, none⟩) := by simpa using hp
  simp [results, h, hp', asAddr, loadVarB hb hu hd hi]
theorem results_cct {fn : Func} {p p2 q : Tmp} {ty ty2 : TypeId} (h : fn.results = #[.cell p ty, .cell p2 ty2, .tmp q]) {tmps : Array Value} {w : World} {b T : Nat} {cs : List Value} (hb : Blk w b T cs) (hp : tmps.getD p undef = .pointer (some ⟨b, 0, none⟩))
    {d : TypeDesc} (hu : P.underlying ty = some d) (hd : rowB d = true) (hi : (P.info? ty).map (·.size) = some cs.length)
    {b2 T2 : Nat} {cs2 : List Value} (hb2 : Blk w b2 T2 cs2) (hp2 : tmps.getD p2 undef = .pointer (some ⟨b2, 0, none⟩))
    {d2 : TypeDesc} (hu2 : P.underlying ty2 = some d2) (hd2 : rowB d2 = true) (hi2 : (P.info? ty2).map (·.size) = some cs2.length) :
    (results fn tmps).run P w = .ok (.tuple #[.agg cs.toArray, .agg cs2.toArray, tmps.getD q undef]) w := by
  have hp' : tmps[p]?.getD undef = .pointer (some ⟨b, 0, none⟩) := by simpa using hp
  have hp2' : tmps[p2]?.getD undef = .pointer (some ⟨b2, 0, none⟩) := by simpa using hp2
  simp [results, h, hp', hp2', asAddr, loadVarB hb hu hd hi, loadVarB hb2 hu2 hd2 hi2]

theorem atLoadQ {ops : Array Oper} {C : World → Prop} {Q : Act → Prop} {o : Oper} {rest : List Oper} {a : Act} (ty : TypeId) {x : Operand} (_ : o.op = .load ty x) (h : wpQuiet P ops C Q (o :: rest) a) : wpQuiet P ops C Q (o :: rest) a := h
/-- A whole struct, loaded in a region that draws its order. -/
theorem wpQuiet_loadB {ops : Array Oper} {C : World → Prop} {Q : Act → Prop} {rest : List Oper} {o : Oper} {a : Act} (hgd : o.guard = none) {ty : TypeId} {x : Operand} (ho : o.op = .load ty x)
    {b T : Nat} {cs : List Value} (hC : ∀ w, C w → Blk w b T cs) (hx : a.eval x = .pointer (some ⟨b, 0, none⟩)) {d : TypeDesc} (hu : P.underlying ty = some d) (hd : rowB d = true) (hi : (P.info? ty).map (·.size) = some cs.length)
    (h : wpQuiet P ops C Q rest (a.put o.dst (.agg cs.toArray))) : wpQuiet P ops C Q (o :: rest) a := by
  refine wpQuiet_step fun K hK => ?_
  rw [if_pos (by simp [Region.wanted, hgd])]
  refine ⟨_, fun w hw => ?_, hK _ h⟩
  unfold Oper.quietAt execOp
  simp only [ho, hx, Instr.loadAt, Instr.sureAddr, Sem.run_bind, Sem.run_pure, Result.andThen_ok, loadVarB (hC w hw) hu hd hi]
  exact ⟨rfl, rfl⟩

/-! ### A region that draws its order and whose stores no other of its operations reads: all but the stores are taken first, under a condition S on the world that the stores keep. -/

def LeftH (P : Program) (l : List Oper) (Q : Exit → Act → World → Prop) (S : World → Prop) (k : Nat) (a : Act) (w : World) : Prop := wpAnyH P .any l.toArray Q S (l.length - k) (pre l.toArray k) a w

theorem wp_region_leftH {id : Nat} {Q : Exit → Act → World → Prop} {a : Act} {w : World} {l : List Oper} (S : World → Prop) (hm : P.follows .mixedOrders = true) (h : LeftH P l Q S 0 a w.drew) : (Code.region id l.toArray true).wp P Q a w :=
  wp_region_held hm (by simpa [LeftH, pre] using h)

/-- What the kernel is asked of the first n operations. -/
def takeB (ops : Array Oper) : Nat → Nat → Bool
  | 0, _ => true
  | f + 1, k => (Region.ready .any ops (pre ops k)).contains k && Region.free .any ops (pre ops k) k && takeB ops f (k + 1)

/-- They all yield, one behind the other. -/
def wpYield (P : Program) (ops : Array Oper) (S : World → Prop) (K : Act → Prop) : List Oper → Act → Prop
  | [], a => K a
  | o :: l, a => ∃ v, YieldsIf P ops S o v a ∧ wpYield P ops S K l (a.put o.dst v)

theorem wpYield_step {ops : Array Oper} {S : World → Prop} {K : Act → Prop} {o : Oper} {l : List Oper} {a : Act} {v : Value} (hg : o.guard = none) (h : ∀ w, S w → (execOp a.eval o).run P w = .ok (.value v) w) (k : wpYield P ops S K l (a.put o.dst v)) : wpYield P ops S K (o :: l) a :=
  ⟨v, .inl ⟨by simp [Region.wanted, hg], h⟩, k⟩
theorem wpYield_stepK {ops : Array Oper} {S : World → Prop} {K : Act → Prop} {o : Oper} {l : List Oper} {a : Act} {v : Value} (hg : o.guard = none) (h : ∀ w, S w → (execOp a.eval o).run P w = .ok (.value v) w)
    (k : ∀ K' : Act → Prop, (∀ a, wpYield P ops S K l a → K' a) → K' (a.put o.dst v)) : wpYield P ops S K (o :: l) a :=
  ⟨v, .inl ⟨by simp [Region.wanted, hg], h⟩, k _ (fun _ h => h)⟩
theorem LeftH.take_list {l : List Oper} {Q : Exit → Act → World → Prop} {S : World → Prop} (hs : Region.noSelect l.toArray = true) (hQ : ∀ c a d v w, Q (.panic c) (a.put d v) w → Q (.panic c) a w) (w : World) (hS : S w) :
    ∀ (l' : List Oper) (k : Nat) (a : Act), (∀ j, j < l'.length → l'[j]? = l[k + j]?) → k + l'.length ≤ l.length → takeB l.toArray l'.length k = true →
      wpYield P l.toArray S (fun a' => LeftH P l Q S (k + l'.length) a' w) l' a → LeftH P l Q S k a w
  | [], k, a, _, _, _, h => h
  | o :: l', k, a, hl, hk, hB, h => by
    simp only [List.length_cons, takeB, Bool.and_eq_true] at hB hk
    obtain ⟨⟨hr, hf⟩, hB'⟩ := hB
    obtain ⟨v, hy, h'⟩ := h
    have h0 : l.toArray[k]? = some o := by simpa using (hl 0 (by simp)).symm
    unfold LeftH
    rw [show l.length - k = (l.length - (k + 1)) + 1 by omega]
    refine wpAnyH_take h0 hs hf hr (fun c a w => hQ c a _ _ w) hy hS ?_
    exact LeftH.take_list hs hQ w hS l' (k + 1) _ (fun j hj => by have := hl (j + 1) (by simp; omega); simpa [Nat.add_assoc, Nat.add_comm 1 j] using this) (by omega) hB' (by
      rw [List.length_cons, show k + (l'.length + 1) = k + 1 + l'.length by omega] at h'
      exact h')

theorem LeftH.take {l : List Oper} {Q : Exit → Act → World → Prop} {S : World → Prop} {a : Act} {w : World} (n : Nat) (hB : (Region.noSelect l.toArray && decide (n ≤ l.length) && takeB l.toArray (l.take n).length 0) = true)
    (hQ : ∀ c a d v w, Q (.panic c) (a.put d v) w → Q (.panic c) a w) (hS : S w)
    (h : wpYield P l.toArray S (fun a' => LeftH P l Q S n a' w) (l.take n) a) : LeftH P l Q S 0 a w := by
  simp only [Bool.and_eq_true, decide_eq_true_eq] at hB
  obtain ⟨⟨hs, hn⟩, hB⟩ := hB
  have hlen : (l.take n).length = n := by simp; omega
  refine LeftH.take_list hs hQ w hS (l.take n) 0 a (fun j hj => ?_) (by rw [hlen]; omega) hB ?_
  · rw [hlen] at hj
    simp [List.getElem?_take, hj]
  · rw [hlen, Nat.zero_add]
    exact h

theorem LeftH.one {Q : Exit → Act → World → Prop} {S : World → Prop} {a : Act} {w : World} {l : List Oper} {k : Nat} {o : Oper} (ho : l[k]? = some o) (hB : Region.ready .any l.toArray (pre l.toArray k) = [k])
    (h : wpList P l.toArray (Exit.then (fun a' w' => S w' ∧ LeftH P l Q S (k + 1) a' w') Q) [o] a w) : LeftH P l Q S k a w := by
  have hk : k < l.length := (List.getElem?_eq_some_iff.1 ho).1
  unfold LeftH
  rw [show l.length - k = (l.length - (k + 1)) + 1 by omega]
  refine ⟨fun h0 => (by rw [hB] at h0; cases h0), fun i hi => ?_⟩
  rw [hB] at hi
  obtain rfl : i = k := by simpa using hi
  have h0 : l.toArray[i]? = some o := by simpa using ho
  unfold wpOp
  simp only [h0]
  unfold wpList at h
  split
  · rename_i hw
    simp only [hw, if_true] at h
    rcases h with h | ⟨h1, a₀, w₀, h2⟩
    · left
      unfold Oper.wp at h ⊢
      generalize (execOp a.eval o).run P w = r at *
      cases r with
      | ok x w' =>
        cases x <;> simp only [Oper.upon] at h ⊢ <;> first | exact h | exact h.mono (fun e w'' he => by cases e <;> exact he)
      | halt x w' => cases x <;> simp only [Oper.upon] at h ⊢ <;> exact h
    · exact .inr ⟨h1, a₀, w₀, h2⟩
  · rename_i hw
    simp only [hw, if_false, Bool.false_eq_true] at h
    exact h
theorem LeftH.done {Q : Exit → Act → World → Prop} {S : World → Prop} {a : Act} {w : World} {l : List Oper} {k : Nat} (hk : l.length = k) (hB : Region.ready .any l.toArray (pre l.toArray k) = []) (h : Q .normal a w) : LeftH P l Q S k a w := by
  unfold LeftH
  rw [hk, Nat.sub_self]
  exact ⟨hB, h⟩

theorem yields_loadB {ops : Array Oper} {S : World → Prop} {o : Oper} {a : Act} (hgd : o.guard = none) {ty : TypeId} {x : Operand} (ho : o.op = .load ty x)
    {b T : Nat} {cs : List Value} (hS : ∀ w, S w → Blk w b T cs) (hx : a.eval x = .pointer (some ⟨b, 0, none⟩)) {d : TypeDesc} (hu : P.underlying ty = some d) (hd : rowB d = true) (hi : (P.info? ty).map (·.size) = some cs.length) :
    YieldsIf P ops S o (.agg cs.toArray) a :=
  .inl ⟨by simp [Region.wanted, hgd], fun w hw => by
    unfold execOp
    simp only [ho, hx, Instr.loadAt, Instr.sureAddr, Sem.run_bind, Sem.run_pure, Result.andThen_ok, loadVarB (hS w hw) hu hd hi]⟩
theorem wpYield_load {ops : Array Oper} {S : World → Prop} {K : Act → Prop} {o : Oper} {l : List Oper} {a : Act} (hgd : o.guard = none) {ty : TypeId} {x : Operand} (ho : o.op = .load ty x)
    {b T : Nat} {cs : List Value} (hS : ∀ w, S w → Blk w b T cs) (hx : a.eval x = .pointer (some ⟨b, 0, none⟩)) {d : TypeDesc} (hu : P.underlying ty = some d) (hd : rowB d = true) (hi : (P.info? ty).map (·.size) = some cs.length)
    (k : ∀ K' : Act → Prop, (∀ a, wpYield P ops S K l a → K' a) → K' (a.put o.dst (.agg cs.toArray))) : wpYield P ops S K (o :: l) a :=
  ⟨_, yields_loadB hgd ho hS hx hu hd hi, k _ (fun _ h => h)⟩

/-- From here on the worldless operations may be taken first. -/
theorem Left.ofH {l : List Oper} {Q : Exit → Act → World → Prop} {k : Nat} {a : Act} {w : World} (h : LeftH P l Q (fun _ => True) k a w) : Left P l Q k a w := wpAny_of_held _ _ _ _ h
theorem LeftH.takeK {l : List Oper} {Q : Exit → Act → World → Prop} {S : World → Prop} {k : Nat} {a : Act} {w : World} (n : Nat) (hB : (Region.noSelect l.toArray && decide (n ≤ l.length) && decide (k ≤ n) && takeB l.toArray ((l.drop k).take (n - k)).length k) = true)
    (hQ : ∀ c a d v w, Q (.panic c) (a.put d v) w → Q (.panic c) a w) (hS : S w)
    (h : wpYield P l.toArray S (fun a' => LeftH P l Q S n a' w) ((l.drop k).take (n - k)) a) : LeftH P l Q S k a w := by
  simp only [Bool.and_eq_true, decide_eq_true_eq] at hB
  obtain ⟨⟨⟨hs, hn⟩, hk⟩, hB⟩ := hB
  have hlen : ((l.drop k).take (n - k)).length = n - k := by simp; omega
  refine LeftH.take_list hs hQ w hS ((l.drop k).take (n - k)) k a (fun j hj => ?_) (by rw [hlen]; omega) hB ?_
  · rw [hlen] at hj
    simp [List.getElem?_take, hj]
  · rw [hlen, show k + (n - k) = n by omega]
    exact h
end
end Go.Proofs.YtghkfopcjdkieaaDoor
