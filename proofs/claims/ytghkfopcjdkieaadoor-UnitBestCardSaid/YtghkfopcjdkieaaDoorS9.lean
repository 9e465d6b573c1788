/-
  A team, opened; whether it is more than a statement looks at.
-/
import Derived.Test.YtghkfopcjdkieaaDoorS8
import Derived.Test.YtghkfopcjdkieaaDoorOpenT
namespace Go.Proofs.YtghkfopcjdkieaaDoor
set_option linter.all false
set_option linter.unusedSimpArgs false
set_option linter.unusedVariables false
open Go.ChangeShapes Go.WideShapes Go.ChangeAt Go.RowKit
set_option maxRecDepth 100000

instance : Inhabited UC := ⟨⟨.string ByteArray.empty, 0, 0, 0, 0, 0, 0, 0, 0, 0, 0, 0⟩⟩
theorem list11 {α : Type} {l : List α} (h : l.length = 11) : ∃ a b c d e f g i j k m, l = [a, b, c, d, e, f, g, i, j, k, m] := by
  match l, h with
  | [a, b, c, d, e, f, g, i, j, k, m], _ => exact ⟨a, b, c, d, e, f, g, i, j, k, m, rfl⟩
theorem list1 {α : Type} {l : List α} (h : l.length = 1) : ∃ a, l = [a] := by
  match l, h with
  | [a], _ => exact ⟨a, rfl⟩
theorem cells9 : Tryd.prog.cellsOf 9 = 1 := by kernel_rfl
theorem cells77 : Tryd.prog.cellsOf 77 = 3 := by kernel_rfl
theorem cells74 : Tryd.prog.cellsOf 74 = 1 := by kernel_rfl
theorem cells64 : Tryd.prog.cellsOf 64 = 1 := by kernel_rfl
theorem cells75 : Tryd.prog.cellsOf 75 = 1 := by kernel_rfl
theorem leaves77 : Tryd.prog.cellTypes Tryd.prog.depth 77 = some [74, 64, 75] := by kernel_rfl
theorem open_units {H : Type} {enc : TypeId × Value → H} {W : World} {v : Value} {d : DataW H} {p : List MemPlace} {r : Reach} {base : Nat} (hv : Value.okWide Tryd.prog W r base 74 v) (h : DataW.Trod enc Tryd.prog W 0 (fun _ => true) true 74 v d p) :
    ∃ ad len cap b off, ∃ U : Nat → UC, ∃ Sn : Nat → ByteArray, v = .slice ad len cap ∧ (Rw W 12 ad b off len fun i => (U i).cells) ∧ ∀ i, i < len → (U i).name = .string (Sn i) := by
  obtain ⟨av, lv, cv, rfl⟩ := okWide_slice Tryd.underlying74 hv
  obtain ⟨m, hm⟩ := h
  rcases Deep.open_slice Tryd.underlying74 hm with ⟨h1, _⟩ | ⟨a, len, cap, m', n, D, Pl, h1, hb, hle, hmax, hmm, hx, hel⟩
  · simp [Value.cells] at h1
    obtain ⟨rfl, rfl, rfl⟩ := h1
    exact ⟨none, 0, 0, 0, 0, fun _ => default, fun _ => ByteArray.empty, rfl, ⟨fun h => absurd h (by omega), Nat.zero_le _, fun i hi => absurd hi (by omega)⟩, fun i hi => absurd hi (by omega)⟩
  · simp [Value.cells] at h1
    obtain ⟨rfl, rfl, rfl⟩ := h1
    have hm' : m' = cv := by simpa using hmm
    subst hm'
    have each : ∀ i, i < lv → ∃ q : UC × ByteArray, q.1.name = .string q.2 ∧ ∀ k v, q.1.cells[k]? = some v → W.cell? (a.add (i * 12 + k)) = some v := by
      intro i hi
      obtain ⟨cs, hc, ht⟩ := hel i (by omega)
      rw [cells25] at hc
      obtain ⟨_, hlen, hcell⟩ := World.cells?_some hc
      obtain ⟨xs, n', _, _, hl, hlen2, hf⟩ := DataW.trod_struct Tryd.underlying25 ht
      obtain ⟨c0, c1, c2, c3, c4, c5, c6, c7, c8, c9, c10, c11, rfl⟩ := list12 hlen
      obtain ⟨y0, y1, y2, y3, y4, y5, y6, y7, y8, y9, y10, rfl⟩ := list11 (show xs.length = 11 from hlen2)
      have k0 := hf 0 _ rfl
      have k1 := hf 1 _ rfl
      have k2 := hf 2 _ rfl
      have k3 := hf 3 _ rfl
      have k4 := hf 4 _ rfl
      have k5 := hf 5 _ rfl
      have k6 := hf 6 _ rfl
      have k7 := hf 7 _ rfl
      have k8 := hf 8 _ rfl
      have k9 := hf 9 _ rfl
      have k10 := hf 10 _ rfl
      simp only [cells3, cells9, cells23, List.drop_succ_cons, List.drop_zero, List.take_succ_cons, List.take_zero, List.getElem?_cons_succ, List.getElem?_cons_zero] at k0 k1 k2 k3 k4 k5 k6 k7 k8 k9 k10
      obtain ⟨z0, z1, n2, _, _, l0, l1⟩ := trod_struct2 Tryd.underlying23 k8
      simp only [cells3, List.drop_succ_cons, List.drop_zero, List.take_succ_cons, List.take_zero] at l0 l1
      obtain ⟨s, e0, _⟩ := DataW.trod_string Tryd.underlying9 k0
      obtain ⟨a1, e1, _, _⟩ := DataW.trod_int Tryd.underlying3 k1
      obtain ⟨a2, e2, _, _⟩ := DataW.trod_int Tryd.underlying3 k2
      obtain ⟨a3, e3, _, _⟩ := DataW.trod_int Tryd.underlying3 k3
      obtain ⟨a4, e4, _, _⟩ := DataW.trod_int Tryd.underlying3 k4
      obtain ⟨a5, e5, _, _⟩ := DataW.trod_int Tryd.underlying3 k5
      obtain ⟨a6, e6, _, _⟩ := DataW.trod_int Tryd.underlying3 k6
      obtain ⟨a7, e7, _, _⟩ := DataW.trod_int Tryd.underlying3 k7
      obtain ⟨a8, e8, _, _⟩ := DataW.trod_int Tryd.underlying3 l0
      obtain ⟨a9, e9, _, _⟩ := DataW.trod_int Tryd.underlying3 l1
      obtain ⟨a10, e10, _, _⟩ := DataW.trod_int Tryd.underlying3 k9
      obtain ⟨a11, e11, _, _⟩ := DataW.trod_int Tryd.underlying3 k10
      obtain ⟨rfl, _⟩ := List.cons.inj e0
      obtain ⟨rfl, _⟩ := List.cons.inj e1
      obtain ⟨rfl, _⟩ := List.cons.inj e2
      obtain ⟨rfl, _⟩ := List.cons.inj e3
      obtain ⟨rfl, _⟩ := List.cons.inj e4
      obtain ⟨rfl, _⟩ := List.cons.inj e5
      obtain ⟨rfl, _⟩ := List.cons.inj e6
      obtain ⟨rfl, _⟩ := List.cons.inj e7
      obtain ⟨rfl, _⟩ := List.cons.inj e8
      obtain ⟨rfl, _⟩ := List.cons.inj e9
      obtain ⟨rfl, _⟩ := List.cons.inj e10
      obtain ⟨rfl, _⟩ := List.cons.inj e11
      refine ⟨(⟨.string s, a1, a2, a3, a4, a5, a6, a7, a8, a9, a10, a11⟩, s), rfl, fun k v hv => ?_⟩
      have hk : k < 12 := (List.getElem?_eq_some_iff.1 hv).1
      rw [← Deep.add_add, hcell k hk]
      exact hv
    obtain ⟨f, hf⟩ := Deep.choose_lt each
    refine ⟨some a, lv, m', a.block, a.off, fun i => (f i).1, fun i => (f i).2, rfl, ⟨fun h0 => ?_, by omega, fun i hi k v hv => ?_⟩, fun i hi => (hf i hi).1⟩
    · have g0 := (hf 0 h0).2 0 _ rfl
      obtain ⟨hs, hlt⟩ := cell_spot (a := a) (by simpa [Addr.add] using g0)
      exact congrArg some (by cases a; simp only at hs; rw [hs])
    · have g0 := (hf 0 (by omega)).2 0 _ rfl
      obtain ⟨hs, hlt⟩ := cell_spot (a := a) (by simpa [Addr.add] using g0)
      have q0 := (hf i hi).2 k v hv
      simp only [Addr.add_at hs, ← Nat.add_assoc] at q0
      exact q0
end Go.Proofs.YtghkfopcjdkieaaDoor
