/-
  Legs, opened.
-/
import Derived.Test.YtghkfopcjdkieaaDoorOpens
namespace Go.Proofs.YtghkfopcjdkieaaDoor
set_option linter.all false
set_option linter.unusedSimpArgs false
set_option linter.unusedVariables false
open Go.ChangeShapes Go.WideShapes Go.ChangeAt Go.RowKit
set_option maxRecDepth 100000

instance : Inhabited LC := ⟨⟨0, 0, 0, 0, 0, 0, 0, 0⟩⟩
theorem cells49 : Tryd.prog.cellsOf 49 = 8 := by kernel_rfl

set_option maxRecDepth 100000 in
theorem open_legs {H : Type} {enc : TypeId × Value → H} {W : World} {v : Value} {d : DataW H} {p : List MemPlace} {r : Reach} {base : Nat} (hv : Value.okWide Tryd.prog W r base 39 v) (h : DataW.Trod enc Tryd.prog W 0 (fun _ => true) true 39 v d p) :
    ∃ ad len cap b off, ∃ L : Nat → LC, v = .slice ad len cap ∧ Rw W 8 ad b off len fun i => (L i).cells := by
  obtain ⟨av, lv, cv, rfl⟩ := okWide_slice Tryd.underlying39 hv
  obtain ⟨m, hm⟩ := h
  rcases Deep.open_slice Tryd.underlying39 hm with ⟨h1, _⟩ | ⟨a, len, cap, m', n, D, Pl, h1, hb, hle, hmax, hmm, hx, hel⟩
  · simp [Value.cells] at h1
    obtain ⟨rfl, rfl, rfl⟩ := h1
    exact ⟨none, 0, 0, 0, 0, fun _ => ⟨0, 0, 0, 0, 0, 0, 0, 0⟩, rfl, ⟨fun h => absurd h (by omega), Nat.zero_le _, fun i hi => absurd hi (by omega)⟩⟩
  · simp [Value.cells] at h1
    obtain ⟨rfl, rfl, rfl⟩ := h1
    have hm' : m' = cv := by simpa using hmm
    subst hm'
    have each : ∀ i, i < lv → ∃ q : LC, ∀ k v, q.cells[k]? = some v → W.cell? (a.add (i * 8 + k)) = some v := by
      intro i hi
      obtain ⟨cs, hc, ht⟩ := hel i (by omega)
      rw [cells49] at hc
      obtain ⟨_, hlen, hcell⟩ := World.cells?_some hc
      obtain ⟨xs, n', _, _, hl, hlen2, hf⟩ := DataW.trod_struct Tryd.underlying49 ht
      obtain ⟨c0, c1, c2, c3, c4, c5, c6, c7, rfl⟩ := list8 hlen
      obtain ⟨y0, y1, y2, y3, y4, y5, rfl⟩ := list6 (show xs.length = 6 from hlen2)
      have k0 := hf 0 _ rfl
      have k1 := hf 1 _ rfl
      have k2 := hf 2 _ rfl
      have k3 := hf 3 _ rfl
      have k4 := hf 4 _ rfl
      have k5 := hf 5 _ rfl
      simp only [cells3, cells23, List.drop_succ_cons, List.drop_zero, List.take_succ_cons, List.take_zero, List.getElem?_cons_succ, List.getElem?_cons_zero] at k0 k1 k2 k3 k4 k5
      obtain ⟨z0, z1, n2, _, _, l0, l1⟩ := trod_struct2 Tryd.underlying23 k0
      obtain ⟨z2, z3, n3, _, _, l2, l3⟩ := trod_struct2 Tryd.underlying23 k1
      simp only [cells3, List.drop_succ_cons, List.drop_zero, List.take_succ_cons, List.take_zero] at l0 l1 l2 l3
      obtain ⟨a0, e0, _, _⟩ := DataW.trod_int Tryd.underlying3 l0
      obtain ⟨a1, e1, _, _⟩ := DataW.trod_int Tryd.underlying3 l1
      obtain ⟨a2, e2, _, _⟩ := DataW.trod_int Tryd.underlying3 l2
      obtain ⟨a3, e3, _, _⟩ := DataW.trod_int Tryd.underlying3 l3
      obtain ⟨a4, e4, _, _⟩ := DataW.trod_int Tryd.underlying3 k2
      obtain ⟨a5, e5, _, _⟩ := DataW.trod_int Tryd.underlying3 k3
      obtain ⟨a6, e6, _, _⟩ := DataW.trod_int Tryd.underlying3 k4
      obtain ⟨a7, e7, _, _⟩ := DataW.trod_int Tryd.underlying3 k5
      obtain ⟨rfl, _⟩ := List.cons.inj e0
      obtain ⟨rfl, _⟩ := List.cons.inj e1
      obtain ⟨rfl, _⟩ := List.cons.inj e2
      obtain ⟨rfl, _⟩ := List.cons.inj e3
      obtain ⟨rfl, _⟩ := List.cons.inj e4
      obtain ⟨rfl, _⟩ := List.cons.inj e5
      obtain ⟨rfl, _⟩ := List.cons.inj e6
      obtain ⟨rfl, _⟩ := List.cons.inj e7
      refine ⟨⟨a0, a1, a2, a3, a4, a5, a6, a7⟩, fun k v hv => ?_⟩
      have hk : k < 8 := (List.getElem?_eq_some_iff.1 hv).1
      rw [← Deep.add_add, hcell k hk]
      exact hv
    obtain ⟨f, hf⟩ := Deep.choose_lt each
    refine ⟨some a, lv, m', a.block, a.off, f, rfl, ⟨fun h0 => ?_, by omega, fun i hi k v hv => ?_⟩⟩
    · have g0 := hf 0 h0 0 _ rfl
      obtain ⟨hs, hlt⟩ := cell_spot (a := a) (by simpa [Addr.add] using g0)
      exact congrArg some (by cases a; simp only at hs; rw [hs])
    · have g0 := hf 0 (by omega) 0 _ rfl
      obtain ⟨hs, hlt⟩ := cell_spot (a := a) (by simpa [Addr.add] using g0)
      have q0 := hf i hi k v hv
      simp only [Addr.add_at hs, ← Nat.add_assoc] at q0
      exact q0
end Go.Proofs.YtghkfopcjdkieaaDoor
