/-
  Ways and a task, opened.
-/
import Derived.Test.YtghkfopcjdkieaaDoorOpenL
import Derived.Test.YtghkfopcjdkieaaDoorR7
namespace Go.Proofs.YtghkfopcjdkieaaDoor
set_option linter.all false
set_option linter.unusedSimpArgs false
set_option linter.unusedVariables false
open Go.ChangeShapes Go.WideShapes Go.ChangeAt Go.RowKit
set_option maxRecDepth 100000

instance : Inhabited WC := ⟨⟨0, 0, 0⟩⟩
theorem cells51 : Tryd.prog.cellsOf 51 = 3 := by kernel_rfl
theorem cells37 : Tryd.prog.cellsOf 37 = 3 := by kernel_rfl
theorem cells35 : Tryd.prog.cellsOf 35 = 1 := by kernel_rfl
theorem cells26 : Tryd.prog.cellsOf 26 = 1 := by kernel_rfl
theorem leaves37 : Tryd.prog.cellTypes Tryd.prog.depth 37 = some [3, 35, 26] := by kernel_rfl
theorem list2 {α : Type} {l : List α} (h : l.length = 2) : ∃ a b, l = [a, b] := by
  match l, h with
  | [a, b], _ => exact ⟨a, b, rfl⟩
theorem list3 {α : Type} {l : List α} (h : l.length = 3) : ∃ a b c, l = [a, b, c] := by
  match l, h with
  | [a, b, c], _ => exact ⟨a, b, c, rfl⟩
set_option maxRecDepth 100000 in
theorem open_ways {H : Type} {enc : TypeId × Value → H} {W : World} {v : Value} {d : DataW H} {p : List MemPlace} {r : Reach} {base : Nat} (hv : Value.okWide Tryd.prog W r base 35 v) (h : DataW.Trod enc Tryd.prog W 0 (fun _ => true) true 35 v d p) :
    ∃ ad len cap b off, ∃ L : Nat → WC, v = .slice ad len cap ∧ Rw W 3 ad b off len fun i => (L i).cells := by
  obtain ⟨av, lv, cv, rfl⟩ := okWide_slice Tryd.underlying35 hv
  obtain ⟨m, hm⟩ := h
  rcases Deep.open_slice Tryd.underlying35 hm with ⟨h1, _⟩ | ⟨a, len, cap, m', n, D, Pl, h1, hb, hle, hmax, hmm, hx, hel⟩
  · simp [Value.cells] at h1
    obtain ⟨rfl, rfl, rfl⟩ := h1
    exact ⟨none, 0, 0, 0, 0, fun _ => ⟨0, 0, 0⟩, rfl, ⟨fun h => absurd h (by omega), Nat.zero_le _, fun i hi => absurd hi (by omega)⟩⟩
  · simp [Value.cells] at h1
    obtain ⟨rfl, rfl, rfl⟩ := h1
    have hm' : m' = cv := by simpa using hmm
    subst hm'
    have each : ∀ i, i < lv → ∃ q : WC, ∀ k v, q.cells[k]? = some v → W.cell? (a.add (i * 3 + k)) = some v := by
      intro i hi
      obtain ⟨cs, hc, ht⟩ := hel i (by omega)
      rw [cells51] at hc
      obtain ⟨_, hlen, hcell⟩ := World.cells?_some hc
      obtain ⟨xs, n', _, _, hl, hlen2, hf⟩ := DataW.trod_struct Tryd.underlying51 ht
      obtain ⟨c0, c1, c2, rfl⟩ := list3 hlen
      obtain ⟨y0, y1, rfl⟩ := list2 (show xs.length = 2 from hlen2)
      have k0 := hf 0 _ rfl
      have k1 := hf 1 _ rfl
      simp only [cells3, cells23, List.drop_succ_cons, List.drop_zero, List.take_succ_cons, List.take_zero, List.getElem?_cons_succ, List.getElem?_cons_zero] at k0 k1
      obtain ⟨z0, z1, n2, _, _, l0, l1⟩ := trod_struct2 Tryd.underlying23 k0
      simp only [cells3, List.drop_succ_cons, List.drop_zero, List.take_succ_cons, List.take_zero] at l0 l1
      obtain ⟨a0, e0, _, _⟩ := DataW.trod_int Tryd.underlying3 l0
      obtain ⟨a1, e1, _, _⟩ := DataW.trod_int Tryd.underlying3 l1
      obtain ⟨a2, e2, _, _⟩ := DataW.trod_int Tryd.underlying3 k1
      obtain ⟨rfl, _⟩ := List.cons.inj e0
      obtain ⟨rfl, _⟩ := List.cons.inj e1
      obtain ⟨rfl, _⟩ := List.cons.inj e2
      refine ⟨⟨a0, a1, a2⟩, fun k v hv => ?_⟩
      have hk : k < 3 := (List.getElem?_eq_some_iff.1 hv).1
      rw [← Deep.add_add, hcell k hk]
      exact hv
    obtain ⟨f, hf⟩ := Deep.choose_lt each
    refine ⟨some a, lv, m', a.block, a.off, f, rfl, ⟨fun h0 => ?_, by omega, fun i hi k v hv => ?_⟩⟩
    · have g0 := hf 0 h0 0 _ rfl
      obtain ⟨hs, hlt⟩ := cell_spot (a := a) (by simpa [Addr.add] using g0)
      exact congrArg some (by cases a; simp only at hs; rw [hs])
    · have g0 := hf 0 (by omega) 0 _ rfl
      obtain ⟨hs, hlt⟩ := cell_spot (a := a) (by simpa [Addr.add] using g0)
      have q0 := hf i hi k v hv
      simp only [Addr.add_at hs, ← Nat.add_assoc] at q0
      exact q0

set_option maxRecDepth 100000 in
theorem open_task {H : Type} {enc : TypeId × Value → H} {W : World} {v : Value} {d : DataW H} {p : List MemPlace} {r : Reach} {base : Nat} (hv : Value.okWide Tryd.prog W r base 37 v) (h : DataW.Trod enc Tryd.prog W 0 (fun _ => true) true 37 v d p) :
    ∃ start ra rb roff rn rcap, ∃ R : Nat → WC, ∃ sa sb soff n cap, ∃ S : Nat → FC, v = .agg (taskC start ra rn rcap sa n cap).toArray ∧ (Rw W 3 ra rb roff rn fun i => (R i).cells) ∧ Rw W 8 sa sb soff n fun i => (S i).cells := by
  have hv' : ∃ cs, v = .agg cs ∧ cs.size = Tryd.prog.cellsOf 37 ∧ Row.okWide Tryd.prog W r base 37 cs := by simpa only [Value.okWide, Tryd.underlying37] using hv
  obtain ⟨⟨l⟩, rfl, hsz, ts, hts, _, hc⟩ := hv'
  rw [cells37] at hsz
  obtain rfl := Option.some.inj (leaves37.symm.trans hts)
  obtain ⟨a, b, c, rfl⟩ := list3 (show l.length = 3 from hsz)
  obtain ⟨_, ea, ha⟩ := hc 0 a rfl
  obtain ⟨_, eb, hb⟩ := hc 1 b rfl
  obtain ⟨_, ec, hc'⟩ := hc 2 c rfl
  cases ea; cases eb; cases ec
  obtain ⟨start, rfl⟩ := leaf_int ha
  have hb' : Value.okWide Tryd.prog W r base 35 b := by simpa only [Value.okWide, Tryd.underlying35] using hb
  have hc2 : Value.okWide Tryd.prog W r base 26 c := by simpa only [Value.okWide, Tryd.underlying26] using hc'
  obtain ⟨m, hm⟩ := h
  obtain ⟨xs, n', _, _, hl, hlen2, hf⟩ := DataW.trod_struct Tryd.underlying37 hm
  obtain ⟨y0, y1, y2, rfl⟩ := list3 (show xs.length = 3 from hlen2)
  have k1 := hf 1 _ rfl
  have k2 := hf 2 _ rfl
  change DataW.trod enc Tryd.prog W 0 (fun _ => true) true n' 35 (List.take (Tryd.prog.cellsOf 35) (List.drop 1 [.int .i64 start, b, c])) = some y1 at k1
  change DataW.trod enc Tryd.prog W 0 (fun _ => true) true n' 26 (List.take (Tryd.prog.cellsOf 26) (List.drop 2 [.int .i64 start, b, c])) = some y2 at k2
  rw [cells35] at k1
  rw [cells26] at k2
  simp only [List.drop_succ_cons, List.drop_zero, List.take_succ_cons, List.take_zero] at k1 k2
  have hb3 := hb'
  have hc3 := hc2
  obtain ⟨ba, bl, bc, rfl⟩ := okWide_slice Tryd.underlying35 hb3
  obtain ⟨ca, cl, cc, rfl⟩ := okWide_slice Tryd.underlying26 hc3
  obtain ⟨ra, rn, rcap, rb, roff, R, e1, h1⟩ := open_ways (d := y1.1) (p := y1.2) hb' ⟨n', k1⟩
  obtain ⟨sa, n, cap, sb, soff, S, e2, h2⟩ := open_sky (d := y2.1) (p := y2.2) hc2 ⟨n', k2⟩
  cases e1
  cases e2
  exact ⟨start, _, rb, roff, _, _, R, _, sb, soff, _, _, S, rfl, h1, h2⟩
end Go.Proofs.YtghkfopcjdkieaaDoor
