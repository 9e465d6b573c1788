/-
  A law's row out of its walk, where a listed variable is laid: the walk is told what it holds.
-/
import Derived.Test.YtghkfopcjdkieaaDoorU12
import Derived.Test.YtghkfopcjdkieaaDoorU27
import Derived.LaidMore
import Derived.Stop.Joined
import Derived.ProofKit
import Derived.OpenShut
import Derived.ShutString
import Derived.ChangeOld
import Derived.Below
import Derived.Carry
import Derived.Lib.SmallJoins
import Derived.Deep.Slices
namespace Go.Proofs.YtghkfopcjdkieaaDoor
set_option linter.all false
set_option linter.unusedSimpArgs false
set_option linter.unusedVariables false
open Go.ChangeShapes Go.WideShapes Go.ChangeAt Go.RowKit

theorem own : ownKnob Tryd.prog.godebug = none := by kernel_rfl
theorem laidOut : laidOutB Tryd.prog = true := by kernel_rfl
def laidR : List (String × DataW Unit) := [("cresset/unit.reasons", Rows.laid_cresset_unit_reasons)]
theorem gReasons : Tryd.prog.globalNamed "cresset/unit.reasons" = some 0 := by kernel_rfl
theorem tReasons : (Tryd.prog.globals[0]?).map (·.type) = some 143 := by kernel_rfl
theorem door_met (os : Os) (args : Array Value) : laidMetH Tryd.prog laidR ((World.doorLaid Tryd.prog 400 os).forCall (fun _ _ => 0) ⟨#[], args, []⟩).memory :=
  laidMetH_of_parts3 (fuel := 8) (laidMet_of_run' 8 (by kernel_rfl) (by kernel_rfl)) (by kernel_rfl) (by kernel_rfl)
theorem list4 {α : Type} {l : List α} (h : l.length = 4) : ∃ a b c d, l = [a, b, c, d] := by
  match l, h with
  | [a, b, c, d], _ => exact ⟨a, b, c, d, rfl⟩
set_option maxRecDepth 100000 in
theorem glob_of {W : World} (h : laidMetH Tryd.prog laidR W) : Glob W := by
  rw [MakeChecks.laidMetH_plain _ _ _ (by kernel_rfl)] at h
  obtain ⟨ps, ⟨g0, t0, cs0, f0, p0, q0, hg0, ht0, hv0, hd0, _, _⟩, _, _⟩ := h
  obtain rfl := Option.some.inj (gReasons.symm.trans hg0)
  obtain rfl := Option.some.inj (tReasons.symm.trans ht0)
  obtain ⟨xs, m1, rfl, hx1, hlen, hn3, hel⟩ := DataW.trod_array Tryd.underlying143 hd0
  have c3 : Tryd.prog.cellsOf 3 = 1 := by kernel_rfl
  have c143 : Tryd.prog.cellsOf 143 = 4 := by kernel_rfl
  rw [c143] at hlen
  rw [c3] at hel
  obtain ⟨l⟩ := cs0
  obtain ⟨a, b, c, d, rfl⟩ := list4 (show l.length = 4 from hlen)
  obtain ⟨x0, x1, x2, x3, rfl⟩ := list4 hn3
  have h0 : DataW.trod (fun _ => ()) Tryd.prog W 0 (fun _ => true) false m1 3 [a] = some x0 := hel 0 (by decide)
  have h1 : DataW.trod (fun _ => ()) Tryd.prog W 0 (fun _ => true) false m1 3 [b] = some x1 := hel 1 (by decide)
  have h2 : DataW.trod (fun _ => ()) Tryd.prog W 0 (fun _ => true) false m1 3 [c] = some x2 := hel 2 (by decide)
  have h3 : DataW.trod (fun _ => ()) Tryd.prog W 0 (fun _ => true) false m1 3 [d] = some x3 := hel 3 (by decide)
  obtain ⟨k0, e0, f0, _⟩ := DataW.trod_int Tryd.underlying3 h0
  obtain ⟨k1, e1, f1, _⟩ := DataW.trod_int Tryd.underlying3 h1
  obtain ⟨k2, e2, f2, _⟩ := DataW.trod_int Tryd.underlying3 h2
  obtain ⟨k3, e3, f3, _⟩ := DataW.trod_int Tryd.underlying3 h3
  have hx := (Prod.mk.inj hx1).1
  unfold Rows.laid_cresset_unit_reasons at hx
  simp only [List.map_cons, List.map_nil, DataW.agg.injEq, List.cons.injEq, f0, f1, f2, f3, DataW.lit.injEq, Lit.int.injEq] at hx
  obtain ⟨⟨_, g0⟩, ⟨_, g1⟩, ⟨_, g2⟩, ⟨_, g3⟩, _⟩ := hx
  have q0 := World.var?_cell hg0 hv0 0
  have q1 := World.var?_cell hg0 hv0 1
  have q2 := World.var?_cell hg0 hv0 2
  have q3 := World.var?_cell hg0 hv0 3
  simp only [List.cons.injEq] at e0 e1 e2 e3
  refine ⟨?_, ?_, ?_, ?_⟩
  · rw [q0, g0, ← e0.1]; rfl
  · rw [q1, g1, ← e1.1]; rfl
  · rw [q2, g2, ← e2.1]; rfl
  · rw [q3, g3, ← e3.1]; rfl

theorem trodAll_below {H : Type} {enc : TypeId × Value → H} {W W' : World} (hb : Below W.heap.size W W') : ∀ (ts : List TypeId) (vs : List Value) (ds : List (DataW H)) (ps : List MemPlace),
    (∀ t ∈ ts, Tryd.prog.readableRec t = true ∧ t < Tryd.prog.types.size) → DataW.TrodAll enc Tryd.prog W 0 (fun _ => true) true ts vs ds ps → (∀ x ∈ ps, x.block < W.heap.size) →
    DataW.TrodAll enc Tryd.prog W' 0 (fun b => decide (b < W.heap.size)) true ts vs ds ps
  | [], _, _, _, _, h, _ => by
    obtain ⟨rfl, rfl, rfl⟩ := trodAll_nil h
    exact trodAll_mk0
  | t :: ts, _, _, _, hts, h, hlt => by
    obtain ⟨v, vs, d, ds, p, q, rfl, rfl, rfl, h1, h2⟩ := trodAll_cons h
    refine trodAll_cons_mk (Below.trod laidOut (hts t (by simp)).1 (hts t (by simp)).2 h1 hb (fun x hx => hlt x (by simp [hx]))) (trodAll_below hb ts vs ds q (fun t' h' => hts t' (by simp [h'])) h2 (fun x hx => hlt x (by simp [hx])))

theorem trodAll_lt {H : Type} {enc : TypeId × Value → H} {W : World} : ∀ (ts : List TypeId) (vs : List Value) (ds : List (DataW H)) (ps : List MemPlace),
    DataW.TrodAll enc Tryd.prog W 0 (fun _ => true) true ts vs ds ps → ∀ x ∈ ps, x.block < W.heap.size
  | [], _, _, _, h => by
    obtain ⟨rfl, rfl, rfl⟩ := trodAll_nil h
    simp
  | t :: ts, _, _, _, h => by
    obtain ⟨v, vs, d, ds, p, q, rfl, rfl, rfl, h1, h2⟩ := trodAll_cons h
    intro x hx
    rcases List.mem_append.1 hx with hx | hx
    · obtain ⟨m, hm⟩ := h1; exact DataW.trod_lt m _ _ _ hm x hx
    · exact trodAll_lt ts vs ds q h2 x hx

set_option maxRecDepth 100000 in
/-- THE FRAME: a law's walk is its row's step. -/
theorem law_liftL {H : Type} {enc : TypeId × Value → H} {os : Os} (started : os.Started) {f : FuncId} {fn : Func} {s : ChangeSpec} (n : Nat)
    (noInit : Tryd.checked.prog.inits.idxOf? f = none) (hf : Tryd.checked.prog.funcs[f]? = some fn)
    (witness : ∃ (w : World) (tape : Tape) (i : Input), w.os = os ∧ (w.forCall tape i).Shaped Tryd.checked.prog ∧ i.vars = [] ∧ Input.okWide Tryd.checked.prog (w.forCall tape i) .any w.heap.size f i ∧
      ((s.pre enc Tryd.checked.prog fn [] false (w.forCall tape i).memory i.args ∧ laidMetH Tryd.prog laidR (w.forCall tape i).memory) ∧ sizedMet enc Tryd.checked.prog fn (OpenSpec.ofChange s) false (w.forCall tape i).memory i.args) ∧ ({} : Assume).holds Tryd.checked.prog (lone (Frame.enter Tryd.checked.prog f i.args .normal) [] (w.forCall tape i)))
    (hts : ∀ t ∈ fn.params.toList, Tryd.prog.readableRec t = true ∧ t < Tryd.prog.types.size) (hn : fn.params.size = n) (hres : fn.resultTypes = #[4]) (hvars : s.vars = [])
    (hfn : ∀ ds : List (DataW H), ds.length = n → s.fn H ds = { results := [.lit (.bool true)], args := ds })
    (walk : ∀ (W : World) (base : Nat) (args : Array Value) (ds : List (DataW H)) (ps : List MemPlace), (∀ (j : Nat) t v, fn.params[j]? = some t → args[j]? = some v → Value.okWide Tryd.prog W .any base t v) →
      DataW.TrodAll enc Tryd.prog W 0 (fun _ => true) true fn.params.toList args.toList ds ps → Glob W → Calls Tryd.prog f args W fun e W' => e = .returned (.bool true) ∧ Frm W.heap.size [] W W') :
    ReturnsInHanded {} Tryd.checked os f .any (fun w args => (s.pre enc Tryd.prog fn [] false w args ∧ laidMetH Tryd.prog laidR w) ∧ sizedMet enc Tryd.prog fn (OpenSpec.ofChange s) false w args) (s.post enc Tryd.checked.prog fn false true false false) := by
  refine returnsInHanded_of_change_and (C := Tryd.checked) (X := fun w _ => laidMetH Tryd.prog laidR w) (fun _ _ _ hh h => h.of_heap hh) own started noInit hf witness ?_
  intro W base args ds gs before hval0 hW hcnd _ hL _
  have hW' := hW
  obtain ⟨p, q, hA, hV, rfl, hfz, hnd⟩ := hW
  rw [hvars] at hV
  obtain ⟨rfl, rfl⟩ := trodVars_none hV
  have hlen : ∀ (ts : List TypeId) (vs : List Value) (ds : List (DataW H)) (ps : List MemPlace), DataW.TrodAll enc Tryd.prog W 0 (fun _ => true) true ts vs ds ps → ds.length = ts.length := by
    intro ts
    induction ts with
    | nil => intro vs ds ps h; obtain ⟨_, rfl, _⟩ := trodAll_nil h; rfl
    | cons t ts ih =>
      intro vs ds ps h
      obtain ⟨v, vs, d, ds, p, q, rfl, rfl, rfl, h1, h2⟩ := trodAll_cons h
      simp [ih _ _ _ h2]
  have hA' : DataW.TrodAll enc Tryd.prog W 0 (fun _ => true) true fn.params.toList args.toList ds p := hA
  refine (walk W base args ds p hval0 hA' (glob_of hL)).mono fun e W' ⟨he, bel⟩ => ?_
  subst he
  have hd : ds.length = n := by rw [hlen _ _ _ _ hA']; simpa using hn
  have hfn' := hfn ds hd
  refine ⟨_, rfl, ds, [], _, [], p, [], hW', ?_, ?_, ?_, bel.below.frame _, fun h => by cases h⟩
  · rw [List.append_nil, hfn', hres]
    exact trodAll_mk1 (shut_bool Tryd.underlying4 _)
  · rw [List.append_nil, hfn']
    exact trodAll_below bel.below _ _ _ _ hts hA' (trodAll_lt _ _ _ _ hA')
  · rw [hvars]
    rw [List.append_nil, hfn']
    rfl
end Go.Proofs.YtghkfopcjdkieaaDoor
