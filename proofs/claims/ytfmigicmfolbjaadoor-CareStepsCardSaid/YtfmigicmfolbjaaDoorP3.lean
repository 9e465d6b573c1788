/-
  The arguments, opened: slices of structs of integers.
-/
import Derived.Test.YtfmigicmfolbjaaDoorP2
namespace Go.Proofs.YtfmigicmfolbjaaDoor
set_option linter.all false
set_option linter.unusedSimpArgs false
set_option linter.unusedVariables false
open Go.ChangeShapes Go.WideShapes Go.ChangeAt Go.RowKit
set_option maxRecDepth 100000

theorem cellsE49 : Tryd.prog.cellsOf 49 = 4 := by kernel_rfl
theorem cellsE61 : Tryd.prog.cellsOf 61 = 2 := by kernel_rfl
instance : Inhabited Ta := ⟨⟨0, 0, 0, 0⟩⟩
set_option maxHeartbeats 1000000
theorem open_tides {H : Type} {enc : TypeId × Value → H} {W : World} {v : Value} {d : DataW H} {p : List MemPlace} {r : Reach} {base : Nat} (hv : Value.okWide Tryd.prog W r base 53 v) (h : DataW.Trod enc Tryd.prog W 0 (fun _ => true) true 53 v d p) :
    ∃ ad len cap b off, ∃ T : Nat → Int × Int, v = .slice ad len cap ∧ Rw W 2 ad b off len fun i => tpC (T i) := by
  obtain ⟨av, lv, cv, rfl⟩ := okWide_slice Tryd.underlying53 hv
  obtain ⟨m, hm⟩ := h
  rcases Deep.open_slice Tryd.underlying53 hm with ⟨h1, _⟩ | ⟨a, len, cap, m', n, D, Pl, h1, hb, hle, hmax, hmm, hx, hel⟩
  · simp [Value.cells] at h1
    obtain ⟨rfl, rfl, rfl⟩ := h1
    exact ⟨none, 0, 0, 0, 0, fun _ => (0, 0), rfl, ⟨fun h => absurd h (by omega), Nat.zero_le _, fun i hi => absurd hi (by omega)⟩⟩
  · simp [Value.cells] at h1
    obtain ⟨rfl, rfl, rfl⟩ := h1
    have hm' : m' = cv := by simpa using hmm
    subst hm'
    have each : ∀ i, i < lv → ∃ q : Int × Int, ∀ k v, (tpC q)[k]? = some v → W.cell? (a.add (i * 2 + k)) = some v := by
      intro i hi
      obtain ⟨cs, hc, ht⟩ := hel i (by omega)
      rw [cellsE61] at hc
      obtain ⟨_, hlen, hcell⟩ := World.cells?_some hc
      obtain ⟨xs, n', _, _, hl, hlen2, hf⟩ := DataW.trod_struct Tryd.underlying61 ht
      obtain ⟨c0, c1, rfl⟩ := list2 hlen
      obtain ⟨y0, y1, rfl⟩ := list2 (show xs.length = 2 from hlen2)
      have k0 := hf 0 _ rfl
      have k1 := hf 1 _ rfl
      simp only [cells3, List.drop_succ_cons, List.drop_zero, List.take_succ_cons, List.take_zero, List.getElem?_cons_succ, List.getElem?_cons_zero] at k0 k1
      obtain ⟨a0, e0, _, _⟩ := DataW.trod_int Tryd.underlying3 k0
      obtain ⟨a1, e1, _, _⟩ := DataW.trod_int Tryd.underlying3 k1
      obtain ⟨rfl, _⟩ := List.cons.inj e0
      obtain ⟨rfl, _⟩ := List.cons.inj e1
      refine ⟨(a0, a1), fun k v hv => ?_⟩
      have hk : k < 2 := (List.getElem?_eq_some_iff.1 hv).1
      rw [← Deep.add_add, hcell k hk]
      exact hv
    obtain ⟨f, hf⟩ := Deep.choose_lt each
    refine ⟨some a, lv, m', a.block, a.off, f, rfl, ⟨fun h0 => ?_, by omega, fun i hi k v hv => ?_⟩⟩
    · have g0 := hf 0 h0 0 _ rfl
      obtain ⟨hs, hlt⟩ := cell_spot (a := a) (by simpa [Addr.add] using g0)
      exact congrArg some (by cases a; simp only at hs; rw [hs])
    · have g0 := hf 0 (by omega) 0 _ rfl
      obtain ⟨hs, hlt⟩ := cell_spot (a := a) (by simpa [Addr.add] using g0)
      have q0 := hf i hi k v hv
      simp only [Addr.add_at hs, ← Nat.add_assoc] at q0
      exact q0
theorem open_tanks {H : Type} {enc : TypeId × Value → H} {W : World} {v : Value} {d : DataW H} {p : List MemPlace} {r : Reach} {base : Nat} (hv : Value.okWide Tryd.prog W r base 42 v) (h : DataW.Trod enc Tryd.prog W 0 (fun _ => true) true 42 v d p) :
    ∃ ad len cap b off, ∃ T : Nat → Ta, v = .slice ad len cap ∧ Rw W 4 ad b off len fun i => (T i).cells := by
  obtain ⟨av, lv, cv, rfl⟩ := okWide_slice Tryd.underlying42 hv
  obtain ⟨m, hm⟩ := h
  rcases Deep.open_slice Tryd.underlying42 hm with ⟨h1, _⟩ | ⟨a, len, cap, m', n, D, Pl, h1, hb, hle, hmax, hmm, hx, hel⟩
  · simp [Value.cells] at h1
    obtain ⟨rfl, rfl, rfl⟩ := h1
    exact ⟨none, 0, 0, 0, 0, fun _ => ⟨0, 0, 0, 0⟩, rfl, ⟨fun h => absurd h (by omega), Nat.zero_le _, fun i hi => absurd hi (by omega)⟩⟩
  · simp [Value.cells] at h1
    obtain ⟨rfl, rfl, rfl⟩ := h1
    have hm' : m' = cv := by simpa using hmm
    subst hm'
    have each : ∀ i, i < lv → ∃ q : Ta, ∀ k v, (q.cells)[k]? = some v → W.cell? (a.add (i * 4 + k)) = some v := by
      intro i hi
      obtain ⟨cs, hc, ht⟩ := hel i (by omega)
      rw [cellsE49] at hc
      obtain ⟨_, hlen, hcell⟩ := World.cells?_some hc
      obtain ⟨xs, n', _, _, hl, hlen2, hf⟩ := DataW.trod_struct Tryd.underlying49 ht
      obtain ⟨c0, c1, c2, c3, rfl⟩ := list4 hlen
      obtain ⟨y0, y1, y2, y3, rfl⟩ := list4 (show xs.length = 4 from hlen2)
      have k0 := hf 0 _ rfl
      have k1 := hf 1 _ rfl
      have k2 := hf 2 _ rfl
      have k3 := hf 3 _ rfl
      simp only [cells3, List.drop_succ_cons, List.drop_zero, List.take_succ_cons, List.take_zero, List.getElem?_cons_succ, List.getElem?_cons_zero] at k0 k1 k2 k3
      obtain ⟨a0, e0, _, _⟩ := DataW.trod_int Tryd.underlying3 k0
      obtain ⟨a1, e1, _, _⟩ := DataW.trod_int Tryd.underlying3 k1
      obtain ⟨a2, e2, _, _⟩ := DataW.trod_int Tryd.underlying3 k2
      obtain ⟨a3, e3, _, _⟩ := DataW.trod_int Tryd.underlying3 k3
      obtain ⟨rfl, _⟩ := List.cons.inj e0
      obtain ⟨rfl, _⟩ := List.cons.inj e1
      obtain ⟨rfl, _⟩ := List.cons.inj e2
      obtain ⟨rfl, _⟩ := List.cons.inj e3
      refine ⟨⟨a0, a1, a2, a3⟩, fun k v hv => ?_⟩
      have hk : k < 4 := (List.getElem?_eq_some_iff.1 hv).1
      rw [← Deep.add_add, hcell k hk]
      exact hv
    obtain ⟨f, hf⟩ := Deep.choose_lt each
    refine ⟨some a, lv, m', a.block, a.off, f, rfl, ⟨fun h0 => ?_, by omega, fun i hi k v hv => ?_⟩⟩
    · have g0 := hf 0 h0 0 _ rfl
      obtain ⟨hs, hlt⟩ := cell_spot (a := a) (by simpa [Addr.add] using g0)
      exact congrArg some (by cases a; simp only at hs; rw [hs])
    · have g0 := hf 0 (by omega) 0 _ rfl
      obtain ⟨hs, hlt⟩ := cell_spot (a := a) (by simpa [Addr.add] using g0)
      have q0 := hf i hi k v hv
      simp only [Addr.add_at hs, ← Nat.add_assoc] at q0
      exact q0
end Go.Proofs.YtfmigicmfolbjaaDoor
