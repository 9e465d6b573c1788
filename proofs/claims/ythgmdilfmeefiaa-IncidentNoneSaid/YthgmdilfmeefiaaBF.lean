/-
  Texts Frame, J38 of this claim, one behind the other.
-/
import Derived.Test.YthgmdilfmeefiaaBE
import Derived.Test.YthgmdilfmeefiaaRows
import Derived.ProofKit
import Derived.OpenShut
import Derived.ShutString
import Derived.ChangeOld
import Derived.Below
import Derived.Carry
import Derived.Lib.SmallJoins
import Derived.Deep.Slices
namespace Go.Proofs.Ythgmdilfmeefiaa
set_option linter.all false
set_option linter.unusedSimpArgs false
set_option linter.unusedVariables false
open Go.ChangeShapes Go.WideShapes Go.ChangeAt Go.RowKit

theorem own : ownKnob Try.prog.godebug = none := by kernel_rfl
theorem laidOut : laidOutB Try.prog = true := by kernel_rfl

theorem trodAll_below {H : Type} {enc : TypeId × Value → H} {W W' : World} (hb : Below W.heap.size W W') : ∀ (ts : List TypeId) (vs : List Value) (ds : List (DataW H)) (ps : List MemPlace),
    (∀ t ∈ ts, Try.prog.readableRec t = true ∧ t < Try.prog.types.size) → DataW.TrodAll enc Try.prog W 0 (fun _ => true) true ts vs ds ps → (∀ x ∈ ps, x.block < W.heap.size) →
    DataW.TrodAll enc Try.prog W' 0 (fun b => decide (b < W.heap.size)) true ts vs ds ps
  | [], _, _, _, _, h, _ => by
    obtain ⟨rfl, rfl, rfl⟩ := trodAll_nil h
    exact trodAll_mk0
  | t :: ts, _, _, _, hts, h, hlt => by
    obtain ⟨v, vs, d, ds, p, q, rfl, rfl, rfl, h1, h2⟩ := trodAll_cons h
    refine trodAll_cons_mk (Below.trod laidOut (hts t (by simp)).1 (hts t (by simp)).2 h1 hb (fun x hx => hlt x (by simp [hx]))) (trodAll_below hb ts vs ds q (fun t' h' => hts t' (by simp [h'])) h2 (fun x hx => hlt x (by simp [hx])))

theorem trodAll_lt {H : Type} {enc : TypeId × Value → H} {W : World} : ∀ (ts : List TypeId) (vs : List Value) (ds : List (DataW H)) (ps : List MemPlace),
    DataW.TrodAll enc Try.prog W 0 (fun _ => true) true ts vs ds ps → ∀ x ∈ ps, x.block < W.heap.size
  | [], _, _, _, h => by
    obtain ⟨rfl, rfl, rfl⟩ := trodAll_nil h
    simp
  | t :: ts, _, _, _, h => by
    obtain ⟨v, vs, d, ds, p, q, rfl, rfl, rfl, h1, h2⟩ := trodAll_cons h
    intro x hx
    rcases List.mem_append.1 hx with hx | hx
    · obtain ⟨m, hm⟩ := h1; exact DataW.trod_lt m _ _ _ hm x hx
    · exact trodAll_lt ts vs ds q h2 x hx

set_option maxRecDepth 100000 in
/-- THE FRAME: a law's walk is its row's step. -/
theorem law_lift {H : Type} {enc : TypeId × Value → H} {os : Os} (started : os.Started) {f : FuncId} {fn : Func} {s : ChangeSpec} {conds : List PathCond} (n : Nat)
    (noInit : Try.checked.prog.inits.idxOf? f = none) (hf : Try.checked.prog.funcs[f]? = some fn)
    (witness : ∃ (w : World) (tape : Tape) (i : Input), w.os = os ∧ (w.forCall tape i).Shaped Try.checked.prog ∧ i.vars = [] ∧ Input.okWide Try.checked.prog (w.forCall tape i) .any w.heap.size f i ∧
      s.pre6 enc Try.checked.prog fn conds false (w.forCall tape i).memory i.args ∧ ({} : Assume).holds Try.checked.prog (lone (Frame.enter Try.checked.prog f i.args .normal) [] (w.forCall tape i)))
    (hts : ∀ t ∈ fn.params.toList, Try.prog.readableRec t = true ∧ t < Try.prog.types.size) (hn : fn.params.size = n) (hres : fn.resultTypes = #[4]) (hvars : s.vars = [])
    (hfn : ∀ ds : List (DataW H), ds.length = n → s.fn H ds = { results := [.lit (.bool true)], args := ds })
    (walk : ∀ (W : World) (base : Nat) (args : Array Value) (ds : List (DataW H)) (ps : List MemPlace), (∀ (j : Nat) t v, fn.params[j]? = some t → args[j]? = some v → Value.okWide Try.prog W .any base t v) →
      DataW.TrodAll enc Try.prog W 0 (fun _ => true) true fn.params.toList args.toList ds ps → Calls Try.prog f args W fun e W' => e = .returned (.bool true) ∧ Frm W.heap.size [] W W') :
    ReturnsInHanded {} Try.checked os f .any (s.pre6 enc Try.checked.prog fn conds false) (s.post enc Try.checked.prog fn false true false false) := by
  refine returnsInHanded_of_change (C := Try.checked) own started noInit hf witness ?_
  intro W base args ds gs before hval0 hW hcnd _
  have hW' := hW
  obtain ⟨p, q, hA, hV, rfl, hfz, hnd⟩ := hW
  rw [hvars] at hV
  obtain ⟨rfl, rfl⟩ := trodVars_none hV
  have hlen : ∀ (ts : List TypeId) (vs : List Value) (ds : List (DataW H)) (ps : List MemPlace), DataW.TrodAll enc Try.prog W 0 (fun _ => true) true ts vs ds ps → ds.length = ts.length := by
    intro ts
    induction ts with
    | nil => intro vs ds ps h; obtain ⟨_, rfl, _⟩ := trodAll_nil h; rfl
    | cons t ts ih =>
      intro vs ds ps h
      obtain ⟨v, vs, d, ds, p, q, rfl, rfl, rfl, h1, h2⟩ := trodAll_cons h
      simp [ih _ _ _ h2]
  have hA' : DataW.TrodAll enc Try.prog W 0 (fun _ => true) true fn.params.toList args.toList ds p := hA
  refine (walk W base args ds p hval0 hA').mono fun e W' ⟨he, bel⟩ => ?_
  subst he
  have hd : ds.length = n := by rw [hlen _ _ _ _ hA']; simpa using hn
  have hfn' := hfn ds hd
  refine ⟨_, rfl, ds, [], _, [], p, [], hW', ?_, ?_, ?_, bel.below.frame _, fun h => by cases h⟩
  · rw [List.append_nil, hfn', hres]
    exact trodAll_mk1 (shut_bool Try.underlying4 _)
  · rw [List.append_nil, hfn']
    exact trodAll_below bel.below _ _ _ _ hts hA' (trodAll_lt _ _ _ _ hA')
  · rw [hvars]
    rw [List.append_nil, hfn']
    rfl
end Go.Proofs.Ythgmdilfmeefiaa

namespace Go.Proofs.Ythgmdilfmeefiaa
set_option linter.all false
set_option linter.unusedSimpArgs false
set_option linter.unusedVariables false
open Go.ChangeShapes Go.WideShapes Go.ChangeAt Go.RowKit
set_option maxRecDepth 100000

theorem Addr.add_at {a : Addr} (h : a.spot = none) (k : Nat) : a.add k = ⟨a.block, a.off + k, none⟩ := by
  unfold Addr.add
  split
  · rename_i e; subst e; cases a; simp only at h; rw [h]; rfl
  · rfl
theorem cell_spot {w : World} {a : Addr} {v : Value} (h : w.cell? a = some v) : a.spot = none ∧ a.block < w.heap.size := by
  unfold World.cell? at h
  split at h
  · rename_i c e f hh
    refine ⟨?_, (Array.getElem?_eq_some_iff.1 hh).1⟩
    cases hs : a.spot with
    | none => rfl
    | some x => simp [hs] at h
  · cases h
theorem getD_range {α : Type} (f : Nat → α) {n i : Nat} (d : α) (hi : i < n) : ((List.range n).map f).getD i d = f i := by
  simp [List.getD_eq_getElem?_getD, hi]
theorem list2 {α : Type} {l : List α} (h : l.length = 2) : ∃ a b, l = [a, b] := by
  match l, h with
  | [a, b], _ => exact ⟨a, b, rfl⟩
theorem list3 {α : Type} {l : List α} (h : l.length = 3) : ∃ a b c, l = [a, b, c] := by
  match l, h with
  | [a, b, c], _ => exact ⟨a, b, c, rfl⟩
theorem list5 {α : Type} {l : List α} (h : l.length = 5) : ∃ a b c d e, l = [a, b, c, d, e] := by
  match l, h with
  | [a, b, c, d, e], _ => exact ⟨a, b, c, d, e, rfl⟩
theorem list6 {α : Type} {l : List α} (h : l.length = 6) : ∃ a b c d e f, l = [a, b, c, d, e, f] := by
  match l, h with
  | [a, b, c, d, e, f], _ => exact ⟨a, b, c, d, e, f, rfl⟩
theorem list7 {α : Type} {l : List α} (h : l.length = 7) : ∃ a b c d e f g, l = [a, b, c, d, e, f, g] := by
  match l, h with
  | [a, b, c, d, e, f, g], _ => exact ⟨a, b, c, d, e, f, g, rfl⟩
theorem cells3 : Try.prog.cellsOf 3 = 1 := by kernel_rfl
theorem cells9 : Try.prog.cellsOf 9 = 1 := by kernel_rfl
theorem cells22 : Try.prog.cellsOf 22 = 1 := by kernel_rfl
theorem cells24 : Try.prog.cellsOf 24 = 7 := by kernel_rfl
theorem cells39 : Try.prog.cellsOf 39 = 6 := by kernel_rfl
theorem cells41 : Try.prog.cellsOf 41 = 16 := by kernel_rfl
theorem cells71 : Try.prog.cellsOf 71 = 2 := by kernel_rfl
section
variable {H : Type} {enc : TypeId × Value → H} {W : World}
set_option maxHeartbeats 1000000
theorem pts_trod {m : Nat} {cs : List Value} {dp : DataW H × List MemPlace} (hm : DataW.trod enc Try.prog W 0 (fun _ => true) true m 22 cs = some dp) :
    ∃ (ad : Option Addr) (b off cap : Nat) (L : List Spt), cs = [.slice ad L.length cap] ∧ RwP W ad b off L.length L := by
  obtain ⟨d, p⟩ := dp
  rcases Deep.open_slice Try.underlying22 hm with ⟨h1, _⟩ | ⟨a, len, cap, m', n, D, Pl, h1, hb, hle, hmax, hmm, hx, hel⟩
  · exact ⟨none, 0, 0, 0, [], h1, ⟨fun h => absurd h (by simp), Nat.zero_le _, fun i hi => absurd hi (by simp)⟩⟩
  · have hm0 : m' = cap := by simpa using hmm
    have hm' := hm0.symm
    subst hm'
    have each : ∀ i, i < len → ∃ q : Spt, (∀ k v, (spC q)[k]? = some v → W.cell? (a.add (i * 2 + k)) = some v) := by
      intro i hi
      obtain ⟨cs, hc, ht⟩ := hel i (by omega)
      rw [cells71] at hc
      obtain ⟨_, hlen, hcell⟩ := World.cells?_some hc
      obtain ⟨xs, n', _, _, hl, hlen2, hf⟩ := DataW.trod_struct Try.underlying71 ht
      obtain ⟨c0, c1, rfl⟩ := list2 hlen
      obtain ⟨y0, y1, rfl⟩ := list2 (show xs.length = 2 from hlen2)
      have k0 := hf 0 _ rfl
      have k1 := hf 1 _ rfl
      simp only [cells3, List.drop_succ_cons, List.drop_zero, List.take_succ_cons, List.take_zero, List.getElem?_cons_succ, List.getElem?_cons_zero] at k0 k1
      obtain ⟨a0, e0, _, _⟩ := DataW.trod_int Try.underlying3 k0
      obtain ⟨a1, e1, _, _⟩ := DataW.trod_int Try.underlying3 k1
      obtain ⟨rfl, _⟩ := List.cons.inj e0
      obtain ⟨rfl, _⟩ := List.cons.inj e1
      refine ⟨(a0, a1), fun k v hv => ?_⟩
      have hk : k < 2 := (List.getElem?_eq_some_iff.1 hv).1
      rw [← Deep.add_add, hcell k hk]
      exact hv
    obtain ⟨f, hf⟩ := Deep.choose_lt each
    have hl : ((List.range len).map f).length = len := by simp
    refine ⟨some a, a.block, a.off, cap, (List.range len).map f, ?_, ⟨fun h0 => ?_, ?_, fun i hi k v hv => ?_⟩⟩
    · rw [h1, hl]
    · rw [hl] at h0
      have g0 := (hf 0 h0) 0 _ rfl
      obtain ⟨hs, hlt⟩ := cell_spot (a := a) (by simpa [Addr.add] using g0)
      exact congrArg some (by cases a; simp only at hs; rw [hs])
    · rw [hl]; omega
    · rw [hl] at hi
      have g0 := (hf 0 (by omega)) 0 _ rfl
      obtain ⟨hs, hlt⟩ := cell_spot (a := a) (by simpa [Addr.add] using g0)
      try dsimp only at hv
      unfold spt at hv
      rw [getD_range _ (0, 0) hi] at hv
      have q0 := (hf i hi) k v hv
      simp only [Addr.add_at hs, ← Nat.add_assoc] at q0
      exact q0
theorem rep_trod {m : Nat} {cs : List Value} {dp : DataW H × List MemPlace} (hlen : cs.length = 7) (hm : DataW.trod enc Try.prog W 0 (fun _ => true) true m 24 cs = some dp) :
    ∃ (r : Rep) (ad : Option Addr) (b off cap : Nat), cs = repC r ad cap ∧ RwP W ad b off r.wh.length r.wh := by
  obtain ⟨d, p⟩ := dp
  obtain ⟨xs, n', _, _, hl, hlen2, hf⟩ := DataW.trod_struct Try.underlying24 hm
  obtain ⟨c0, c1, c2, c3, c4, c5, c6, rfl⟩ := list7 hlen
  obtain ⟨y0, y1, y2, y3, y4, y5, y6, rfl⟩ := list7 (show xs.length = 7 from hlen2)
  have k0 := hf 0 _ rfl
  have k1 := hf 1 _ rfl
  have k2 := hf 2 _ rfl
  have k3 := hf 3 _ rfl
  have k4 := hf 4 _ rfl
  have k5 := hf 5 _ rfl
  have k6 := hf 6 _ rfl
  change DataW.trod enc Try.prog W 0 (fun _ => true) true n' 3 (List.take (Try.prog.cellsOf 3) (List.drop 0 [c0, c1, c2, c3, c4, c5, c6])) = some y0 at k0
  rw [cells3] at k0
  change DataW.trod enc Try.prog W 0 (fun _ => true) true n' 3 (List.take (Try.prog.cellsOf 3) (List.drop 1 [c0, c1, c2, c3, c4, c5, c6])) = some y1 at k1
  rw [cells3] at k1
  change DataW.trod enc Try.prog W 0 (fun _ => true) true n' 9 (List.take (Try.prog.cellsOf 9) (List.drop 2 [c0, c1, c2, c3, c4, c5, c6])) = some y2 at k2
  rw [cells9] at k2
  change DataW.trod enc Try.prog W 0 (fun _ => true) true n' 9 (List.take (Try.prog.cellsOf 9) (List.drop 3 [c0, c1, c2, c3, c4, c5, c6])) = some y3 at k3
  rw [cells9] at k3
  change DataW.trod enc Try.prog W 0 (fun _ => true) true n' 22 (List.take (Try.prog.cellsOf 22) (List.drop 4 [c0, c1, c2, c3, c4, c5, c6])) = some y4 at k4
  rw [cells22] at k4
  change DataW.trod enc Try.prog W 0 (fun _ => true) true n' 3 (List.take (Try.prog.cellsOf 3) (List.drop 5 [c0, c1, c2, c3, c4, c5, c6])) = some y5 at k5
  rw [cells3] at k5
  change DataW.trod enc Try.prog W 0 (fun _ => true) true n' 3 (List.take (Try.prog.cellsOf 3) (List.drop 6 [c0, c1, c2, c3, c4, c5, c6])) = some y6 at k6
  rw [cells3] at k6
  simp only [List.drop_succ_cons, List.drop_zero, List.take_succ_cons, List.take_zero] at k0 k1 k2 k3 k4 k5 k6
  obtain ⟨a0, e0, _, _⟩ := DataW.trod_int Try.underlying3 k0
  obtain ⟨rfl, _⟩ := List.cons.inj e0
  obtain ⟨a1, e1, _, _⟩ := DataW.trod_int Try.underlying3 k1
  obtain ⟨rfl, _⟩ := List.cons.inj e1
  obtain ⟨a2, e2, _⟩ := DataW.trod_string Try.underlying9 k2
  obtain ⟨rfl, _⟩ := List.cons.inj e2
  obtain ⟨a3, e3, _⟩ := DataW.trod_string Try.underlying9 k3
  obtain ⟨rfl, _⟩ := List.cons.inj e3
  obtain ⟨ad, b, off, cap, L, e4, hL⟩ := pts_trod k4
  obtain ⟨rfl, _⟩ := List.cons.inj e4
  obtain ⟨a5, e5, _, _⟩ := DataW.trod_int Try.underlying3 k5
  obtain ⟨rfl, _⟩ := List.cons.inj e5
  obtain ⟨a6, e6, _, _⟩ := DataW.trod_int Try.underlying3 k6
  obtain ⟨rfl, _⟩ := List.cons.inj e6
  exact ⟨⟨a0, a1, a2, a3, L, a5, a6⟩, ad, b, off, cap, rfl, hL⟩
theorem prf_trod {m : Nat} {cs : List Value} {dp : DataW H × List MemPlace} (hlen : cs.length = 6) (hm : DataW.trod enc Try.prog W 0 (fun _ => true) true m 39 cs = some dp) :
    ∃ (p : Prf) (ad : Option Addr) (b off cap : Nat), cs = prfA p ad cap ∧ RwP W ad b off p.wh.length p.wh := by
  obtain ⟨d, p⟩ := dp
  obtain ⟨xs, n', _, _, hl, hlen2, hf⟩ := DataW.trod_struct Try.underlying39 hm
  obtain ⟨c0, c1, c2, c3, c4, c5, rfl⟩ := list6 hlen
  obtain ⟨y0, y1, y2, y3, y4, y5, rfl⟩ := list6 (show xs.length = 6 from hlen2)
  have k0 := hf 0 _ rfl
  have k1 := hf 1 _ rfl
  have k2 := hf 2 _ rfl
  have k3 := hf 3 _ rfl
  have k4 := hf 4 _ rfl
  have k5 := hf 5 _ rfl
  change DataW.trod enc Try.prog W 0 (fun _ => true) true n' 3 (List.take (Try.prog.cellsOf 3) (List.drop 0 [c0, c1, c2, c3, c4, c5])) = some y0 at k0
  rw [cells3] at k0
  change DataW.trod enc Try.prog W 0 (fun _ => true) true n' 3 (List.take (Try.prog.cellsOf 3) (List.drop 1 [c0, c1, c2, c3, c4, c5])) = some y1 at k1
  rw [cells3] at k1
  change DataW.trod enc Try.prog W 0 (fun _ => true) true n' 3 (List.take (Try.prog.cellsOf 3) (List.drop 2 [c0, c1, c2, c3, c4, c5])) = some y2 at k2
  rw [cells3] at k2
  change DataW.trod enc Try.prog W 0 (fun _ => true) true n' 9 (List.take (Try.prog.cellsOf 9) (List.drop 3 [c0, c1, c2, c3, c4, c5])) = some y3 at k3
  rw [cells9] at k3
  change DataW.trod enc Try.prog W 0 (fun _ => true) true n' 22 (List.take (Try.prog.cellsOf 22) (List.drop 4 [c0, c1, c2, c3, c4, c5])) = some y4 at k4
  rw [cells22] at k4
  change DataW.trod enc Try.prog W 0 (fun _ => true) true n' 3 (List.take (Try.prog.cellsOf 3) (List.drop 5 [c0, c1, c2, c3, c4, c5])) = some y5 at k5
  rw [cells3] at k5
  simp only [List.drop_succ_cons, List.drop_zero, List.take_succ_cons, List.take_zero] at k0 k1 k2 k3 k4 k5
  obtain ⟨a0, e0, _, _⟩ := DataW.trod_int Try.underlying3 k0
  obtain ⟨rfl, _⟩ := List.cons.inj e0
  obtain ⟨a1, e1, _, _⟩ := DataW.trod_int Try.underlying3 k1
  obtain ⟨rfl, _⟩ := List.cons.inj e1
  obtain ⟨a2, e2, _, _⟩ := DataW.trod_int Try.underlying3 k2
  obtain ⟨rfl, _⟩ := List.cons.inj e2
  obtain ⟨a3, e3, _⟩ := DataW.trod_string Try.underlying9 k3
  obtain ⟨rfl, _⟩ := List.cons.inj e3
  obtain ⟨ad, b, off, cap, L, e4, hL⟩ := pts_trod k4
  obtain ⟨rfl, _⟩ := List.cons.inj e4
  obtain ⟨a5, e5, _, _⟩ := DataW.trod_int Try.underlying3 k5
  obtain ⟨rfl, _⟩ := List.cons.inj e5
  exact ⟨⟨a0, a1, a2, a3, L, a5⟩, ad, b, off, cap, rfl, hL⟩
/-- Where a call's lists lie. -/
structure APos where
  ra : Option Addr
  rb : Nat
  ro : Nat
  rc : Nat
  pa : Option Addr
  pb : Nat
  po : Nat
  pc : Nat
def actC (x : Act_) (q : APos) : List Value := [.int .i64 x.what, .int .i64 x.n, .int .i64 x.m] ++ (repC x.r q.ra q.rc ++ prfA x.p q.pa q.pc)
structure ActAt (w : World) (x : Act_) (q : APos) : Prop where
  r : RwP w q.ra q.rb q.ro x.r.wh.length x.r.wh
  p : RwP w q.pa q.pb q.po x.p.wh.length x.p.wh
theorem act_trod {m : Nat} {cs : List Value} {dp : DataW H × List MemPlace} (hlen : cs.length = 16) (hm : DataW.trod enc Try.prog W 0 (fun _ => true) true m 41 cs = some dp) :
    ∃ (x : Act_) (q : APos), cs = actC x q ∧ ActAt W x q := by
  obtain ⟨d, p⟩ := dp
  obtain ⟨xs, n', _, _, hl, hlen2, hf⟩ := DataW.trod_struct Try.underlying41 hm
  match cs, hlen with
  | [c0, c1, c2, c3, c4, c5, c6, c7, c8, c9, c10, c11, c12, c13, c14, c15], _ =>
  obtain ⟨y0, y1, y2, y3, y4, rfl⟩ := list5 (show xs.length = 5 from hlen2)
  have k0 := hf 0 _ rfl
  have k1 := hf 1 _ rfl
  have k2 := hf 2 _ rfl
  have k3 := hf 3 _ rfl
  have k4 := hf 4 _ rfl
  simp only [cells3, cells24, cells39, List.drop_succ_cons, List.drop_zero, List.take_succ_cons, List.take_zero, List.getElem?_cons_succ, List.getElem?_cons_zero] at k0 k1 k2 k3 k4
  obtain ⟨a0, e0, _, _⟩ := DataW.trod_int Try.underlying3 k0
  obtain ⟨a1, e1, _, _⟩ := DataW.trod_int Try.underlying3 k1
  obtain ⟨a2, e2, _, _⟩ := DataW.trod_int Try.underlying3 k2
  obtain ⟨rfl, _⟩ := List.cons.inj e0
  obtain ⟨rfl, _⟩ := List.cons.inj e1
  obtain ⟨rfl, _⟩ := List.cons.inj e2
  obtain ⟨r, ra, rb, ro, rc, e3, hr⟩ := rep_trod rfl k3
  obtain ⟨pf, pa, pb, po, pc, e4, hp⟩ := prf_trod rfl k4
  refine ⟨⟨a0, a1, a2, r, pf⟩, ⟨ra, rb, ro, rc, pa, pb, po, pc⟩, ?_, ⟨hr, hp⟩⟩
  unfold actC
  dsimp only
  rw [← e3, ← e4]
  rfl
end
theorem open_rep {H : Type} {enc : TypeId × Value → H} {W : World} {v : Value} {d : DataW H} {p : List MemPlace} {r : Reach} {base : Nat} (hv : Value.okWide Try.prog W r base 24 v) (h : DataW.Trod enc Try.prog W 0 (fun _ => true) true 24 v d p) :
    ∃ (r : Rep) (ad : Option Addr) (b off cap : Nat), v = .agg (repC r ad cap).toArray ∧ RwP W ad b off r.wh.length r.wh := by
  have hv' : ∃ cs, v = .agg cs ∧ cs.size = Try.prog.cellsOf 24 ∧ Row.okWide Try.prog W r base 24 cs := by simpa only [Value.okWide, Try.underlying24] using hv
  obtain ⟨⟨l⟩, rfl, hsz, _⟩ := hv'
  rw [cells24] at hsz
  obtain ⟨m, hm⟩ := h
  obtain ⟨r, ad, b, off, cap, e, hr⟩ := rep_trod (show l.length = 7 from hsz) hm
  exact ⟨r, ad, b, off, cap, by rw [← e], hr⟩
theorem open_acts {H : Type} {enc : TypeId × Value → H} {W : World} {v : Value} {d : DataW H} {p : List MemPlace} {r : Reach} {base : Nat} (hv : Value.okWide Try.prog W r base 31 v) (h : DataW.Trod enc Try.prog W 0 (fun _ => true) true 31 v d p) :
    ∃ ad len cap b off, ∃ A : Nat → Act_ × APos, v = .slice ad len cap ∧ (Rw W 16 ad b off len fun i => actC (A i).1 (A i).2) ∧ ∀ i, i < len → ActAt W (A i).1 (A i).2 := by
  obtain ⟨av, lv, cv, rfl⟩ := okWide_slice Try.underlying31 hv
  obtain ⟨m, hm⟩ := h
  rcases Deep.open_slice Try.underlying31 hm with ⟨h1, _⟩ | ⟨a, len, cap, m', n, D, Pl, h1, hb, hle, hmax, hmm, hx, hel⟩
  · simp [Value.cells] at h1
    obtain ⟨rfl, rfl, rfl⟩ := h1
    exact ⟨none, 0, 0, 0, 0, fun _ => (⟨0, 0, 0, rep0, prf0⟩, ⟨none, 0, 0, 0, none, 0, 0, 0⟩), rfl, ⟨fun h => absurd h (by omega), Nat.zero_le _, fun i hi => absurd hi (by omega)⟩, fun i hi => absurd hi (by omega)⟩
  · simp [Value.cells] at h1
    obtain ⟨rfl, rfl, rfl⟩ := h1
    have hm' : m' = cv := by simpa using hmm
    subst hm'
    have each : ∀ i, i < lv → ∃ q : Act_ × APos, (∀ k v, (actC q.1 q.2)[k]? = some v → W.cell? (a.add (i * 16 + k)) = some v) ∧ ActAt W q.1 q.2 := by
      intro i hi
      obtain ⟨cs, hc, ht⟩ := hel i (by omega)
      rw [cells41] at hc
      obtain ⟨_, hlen, hcell⟩ := World.cells?_some hc
      obtain ⟨x, q, e, hq⟩ := act_trod hlen ht
      refine ⟨(x, q), fun k v hv => ?_, hq⟩
      rw [← e] at hv
      have hk : k < 16 := by have := (List.getElem?_eq_some_iff.1 hv).1; omega
      rw [← Deep.add_add, hcell k hk]
      exact hv
    haveI : Inhabited (Act_ × APos) := ⟨(⟨0, 0, 0, rep0, prf0⟩, ⟨none, 0, 0, 0, none, 0, 0, 0⟩)⟩
    obtain ⟨f, hf⟩ := Deep.choose_lt each
    refine ⟨some a, lv, m', a.block, a.off, f, rfl, ⟨fun h0 => ?_, by omega, fun i hi k v hv => ?_⟩, fun i hi => (hf i hi).2⟩
    · have g0 := (hf 0 h0).1 0 _ rfl
      obtain ⟨hs, hlt⟩ := cell_spot (a := a) (by simpa [Addr.add] using g0)
      exact congrArg some (by cases a; simp only at hs; rw [hs])
    · have g0 := (hf 0 (by omega)).1 0 _ rfl
      obtain ⟨hs, hlt⟩ := cell_spot (a := a) (by simpa [Addr.add] using g0)
      have q0 := (hf i hi).1 k v hv
      simp only [Addr.add_at hs, ← Nat.add_assoc] at q0
      exact q0
end Go.Proofs.Ythgmdilfmeefiaa
