/-
  The arguments, opened.
-/
import Derived.Test.YtghkfopcjdkieaaDoorFrameL
namespace Go.Proofs.YtghkfopcjdkieaaDoor
set_option linter.all false
set_option linter.unusedSimpArgs false
set_option linter.unusedVariables false
open Go.ChangeShapes Go.WideShapes Go.ChangeAt Go.RowKit
set_option maxRecDepth 100000

instance : Inhabited FC := ⟨⟨0, 0, 0, 0, 0, 0, 0, 0⟩⟩
theorem Addr.add_at {a : Addr} (h : a.spot = none) (k : Nat) : a.add k = ⟨a.block, a.off + k, none⟩ := by
  unfold Addr.add
  split
  · rename_i e; subst e; cases a; simp only at h; rw [h]; rfl
  · rfl
theorem cell_spot {w : World} {a : Addr} {v : Value} (h : w.cell? a = some v) : a.spot = none ∧ a.block < w.heap.size := by
  unfold World.cell? at h
  split at h
  · rename_i c e f hh
    refine ⟨?_, (Array.getElem?_eq_some_iff.1 hh).1⟩
    cases hs : a.spot with
    | none => rfl
    | some x => simp [hs] at h
  · cases h
theorem list12 {α : Type} {l : List α} (h : l.length = 12) : ∃ a b c d e f g i j k m n, l = [a, b, c, d, e, f, g, i, j, k, m, n] := by
  match l, h with
  | [a, b, c, d, e, f, g, i, j, k, m, n], _ => exact ⟨a, b, c, d, e, f, g, i, j, k, m, n, rfl⟩
theorem list8 {α : Type} {l : List α} (h : l.length = 8) : ∃ a b c d e f g i, l = [a, b, c, d, e, f, g, i] := by
  match l, h with
  | [a, b, c, d, e, f, g, i], _ => exact ⟨a, b, c, d, e, f, g, i, rfl⟩
theorem list6 {α : Type} {l : List α} (h : l.length = 6) : ∃ a b c d e f, l = [a, b, c, d, e, f] := by
  match l, h with
  | [a, b, c, d, e, f], _ => exact ⟨a, b, c, d, e, f, rfl⟩
theorem cells25 : Tryd.prog.cellsOf 25 = 12 := by kernel_rfl
theorem leaves25 : Tryd.prog.cellTypes Tryd.prog.depth 25 = some [9, 3, 3, 3, 3, 3, 3, 3, 3, 3, 3, 3] := by kernel_rfl
theorem cells27 : Tryd.prog.cellsOf 27 = 4 := by kernel_rfl
theorem leaves27 : Tryd.prog.cellTypes Tryd.prog.depth 27 = some [3, 3, 3, 3] := by kernel_rfl
theorem cells23 : Tryd.prog.cellsOf 23 = 2 := by kernel_rfl
theorem cells3 : Tryd.prog.cellsOf 3 = 1 := by kernel_rfl
theorem cells54 : Tryd.prog.cellsOf 54 = 8 := by kernel_rfl

section
variable {W : World} {r : Reach} {base : Nat} {v : Value}
theorem leaf_int (h : Cell.okWide Tryd.prog W r base 3 v) : ∃ n, v = .int .i64 n := okWide_int Tryd.underlying3 (by simpa only [Value.okWide, Tryd.underlying3] using h)
theorem leaf_str (h : Cell.okWide Tryd.prog W r base 9 v) : ∃ s, v = .string s := okWide_string Tryd.underlying9 (by simpa only [Value.okWide, Tryd.underlying9] using h)

set_option maxRecDepth 100000 in
theorem open_unit (hv : Value.okWide Tryd.prog W r base 25 v) : ∃ (u : UC) (s : ByteArray), v = .agg u.cells.toArray ∧ u.name = .string s := by
  have hv' : ∃ cs, v = .agg cs ∧ cs.size = Tryd.prog.cellsOf 25 ∧ Row.okWide Tryd.prog W r base 25 cs := by simpa only [Value.okWide, Tryd.underlying25] using hv
  obtain ⟨⟨l⟩, rfl, hsz, ts, hts, _, hc⟩ := hv'
  rw [cells25] at hsz
  obtain rfl := Option.some.inj (leaves25.symm.trans hts)
  obtain ⟨a, b, c, d, e, f, g, i, j, k, m, n, rfl⟩ := list12 (show l.length = 12 from hsz)
  obtain ⟨_, ea, ha⟩ := hc 0 a rfl
  obtain ⟨_, eb, hb⟩ := hc 1 b rfl
  obtain ⟨_, ec, hc'⟩ := hc 2 c rfl
  obtain ⟨_, ed, hd⟩ := hc 3 d rfl
  obtain ⟨_, ee, he⟩ := hc 4 e rfl
  obtain ⟨_, ef, hf⟩ := hc 5 f rfl
  obtain ⟨_, eg, hg⟩ := hc 6 g rfl
  obtain ⟨_, ei, hi⟩ := hc 7 i rfl
  obtain ⟨_, ej, hj⟩ := hc 8 j rfl
  obtain ⟨_, ek, hk⟩ := hc 9 k rfl
  obtain ⟨_, em, hm⟩ := hc 10 m rfl
  obtain ⟨_, en, hn⟩ := hc 11 n rfl
  cases ea; cases eb; cases ec; cases ed; cases ee; cases ef; cases eg; cases ei; cases ej; cases ek; cases em; cases en
  obtain ⟨s, rfl⟩ := leaf_str ha
  obtain ⟨_, rfl⟩ := leaf_int hb
  obtain ⟨_, rfl⟩ := leaf_int hc'
  obtain ⟨_, rfl⟩ := leaf_int hd
  obtain ⟨_, rfl⟩ := leaf_int he
  obtain ⟨_, rfl⟩ := leaf_int hf
  obtain ⟨_, rfl⟩ := leaf_int hg
  obtain ⟨_, rfl⟩ := leaf_int hi
  obtain ⟨_, rfl⟩ := leaf_int hj
  obtain ⟨_, rfl⟩ := leaf_int hk
  obtain ⟨_, rfl⟩ := leaf_int hm
  obtain ⟨_, rfl⟩ := leaf_int hn
  exact ⟨⟨.string s, _, _, _, _, _, _, _, _, _, _, _⟩, s, rfl, rfl⟩
theorem open_spots (hv : Value.okWide Tryd.prog W r base 27 v) : ∃ a b c d, v = .agg #[.int .i64 a, .int .i64 b, .int .i64 c, .int .i64 d] := by
  have hv' : ∃ cs, v = .agg cs ∧ cs.size = Tryd.prog.cellsOf 27 ∧ Row.okWide Tryd.prog W r base 27 cs := by simpa only [Value.okWide, Tryd.underlying27] using hv
  obtain ⟨⟨l⟩, rfl, hsz, ts, hts, _, hc⟩ := hv'
  rw [cells27] at hsz
  obtain rfl := Option.some.inj (leaves27.symm.trans hts)
  obtain ⟨a, b, c, d, rfl⟩ := list4 (show l.length = 4 from hsz)
  obtain ⟨_, ea, ha⟩ := hc 0 a rfl
  obtain ⟨_, eb, hb⟩ := hc 1 b rfl
  obtain ⟨_, ec, hc'⟩ := hc 2 c rfl
  obtain ⟨_, ed, hd⟩ := hc 3 d rfl
  cases ea; cases eb; cases ec; cases ed
  obtain ⟨_, rfl⟩ := leaf_int ha
  obtain ⟨_, rfl⟩ := leaf_int hb
  obtain ⟨_, rfl⟩ := leaf_int hc'
  obtain ⟨_, rfl⟩ := leaf_int hd
  exact ⟨_, _, _, _, rfl⟩
end

set_option maxRecDepth 100000 in
theorem open_sky {H : Type} {enc : TypeId × Value → H} {W : World} {v : Value} {d : DataW H} {p : List MemPlace} {r : Reach} {base : Nat} (hv : Value.okWide Tryd.prog W r base 26 v) (h : DataW.Trod enc Tryd.prog W 0 (fun _ => true) true 26 v d p) :
    ∃ ad len cap b off, ∃ S : Nat → FC, v = .slice ad len cap ∧ Rw W 8 ad b off len fun i => (S i).cells := by
  obtain ⟨av, lv, cv, rfl⟩ := okWide_slice Tryd.underlying26 hv
  obtain ⟨m, hm⟩ := h
  rcases Deep.open_slice Tryd.underlying26 hm with ⟨h1, _⟩ | ⟨a, len, cap, m', n, D, Pl, h1, hb, hle, hmax, hmm, hx, hel⟩
  · simp [Value.cells] at h1
    obtain ⟨rfl, rfl, rfl⟩ := h1
    exact ⟨none, 0, 0, 0, 0, fun _ => ⟨0, 0, 0, 0, 0, 0, 0, 0⟩, rfl, ⟨fun h => absurd h (by omega), Nat.zero_le _, fun i hi => absurd hi (by omega)⟩⟩
  · simp [Value.cells] at h1
    obtain ⟨rfl, rfl, rfl⟩ := h1
    have hm' : m' = cv := by simpa using hmm
    subst hm'
    have each : ∀ i, i < lv → ∃ q : FC, ∀ k v, q.cells[k]? = some v → W.cell? (a.add (i * 8 + k)) = some v := by
      intro i hi
      obtain ⟨cs, hc, ht⟩ := hel i (by omega)
      rw [cells54] at hc
      obtain ⟨_, hlen, hcell⟩ := World.cells?_some hc
      obtain ⟨xs, n', _, _, hl, hlen2, hf⟩ := DataW.trod_struct Tryd.underlying54 ht
      obtain ⟨c0, c1, c2, c3, c4, c5, c6, c7, rfl⟩ := list8 hlen
      obtain ⟨y0, y1, y2, y3, y4, y5, rfl⟩ := list6 (show xs.length = 6 from hlen2)
      have k0 := hf 0 _ rfl
      have k1 := hf 1 _ rfl
      have k2 := hf 2 _ rfl
      have k3 := hf 3 _ rfl
      have k4 := hf 4 _ rfl
      have k5 := hf 5 _ rfl
      simp only [cells3, cells23, List.drop_succ_cons, List.drop_zero, List.take_succ_cons, List.take_zero, List.getElem?_cons_succ, List.getElem?_cons_zero] at k0 k1 k2 k3 k4 k5
      obtain ⟨z0, z1, n2, _, _, l0, l1⟩ := trod_struct2 Tryd.underlying23 k2
      obtain ⟨z2, z3, n3, _, _, l2, l3⟩ := trod_struct2 Tryd.underlying23 k3
      simp only [cells3, List.drop_succ_cons, List.drop_zero, List.take_succ_cons, List.take_zero] at l0 l1 l2 l3
      obtain ⟨a0, e0, _, _⟩ := DataW.trod_int Tryd.underlying3 k0
      obtain ⟨a1, e1, _, _⟩ := DataW.trod_int Tryd.underlying3 k1
      obtain ⟨a2, e2, _, _⟩ := DataW.trod_int Tryd.underlying3 l0
      obtain ⟨a3, e3, _, _⟩ := DataW.trod_int Tryd.underlying3 l1
      obtain ⟨a4, e4, _, _⟩ := DataW.trod_int Tryd.underlying3 l2
      obtain ⟨a5, e5, _, _⟩ := DataW.trod_int Tryd.underlying3 l3
      obtain ⟨a6, e6, _, _⟩ := DataW.trod_int Tryd.underlying3 k4
      obtain ⟨a7, e7, _, _⟩ := DataW.trod_int Tryd.underlying3 k5
      obtain ⟨rfl, _⟩ := List.cons.inj e0
      obtain ⟨rfl, _⟩ := List.cons.inj e1
      obtain ⟨rfl, _⟩ := List.cons.inj e2
      obtain ⟨rfl, _⟩ := List.cons.inj e3
      obtain ⟨rfl, _⟩ := List.cons.inj e4
      obtain ⟨rfl, _⟩ := List.cons.inj e5
      obtain ⟨rfl, _⟩ := List.cons.inj e6
      obtain ⟨rfl, _⟩ := List.cons.inj e7
      refine ⟨⟨a0, a1, a2, a3, a4, a5, a6, a7⟩, fun k v hv => ?_⟩
      have hk : k < 8 := (List.getElem?_eq_some_iff.1 hv).1
      rw [← Deep.add_add, hcell k hk]
      exact hv
    obtain ⟨f, hf⟩ := Deep.choose_lt each
    refine ⟨some a, lv, m', a.block, a.off, f, rfl, ⟨fun h0 => ?_, by omega, fun i hi k v hv => ?_⟩⟩
    · have g0 := hf 0 h0 0 _ rfl
      obtain ⟨hs, hlt⟩ := cell_spot (a := a) (by simpa [Addr.add] using g0)
      exact congrArg some (by cases a; simp only at hs; rw [hs])
    · have g0 := hf 0 (by omega) 0 _ rfl
      obtain ⟨hs, hlt⟩ := cell_spot (a := a) (by simpa [Addr.add] using g0)
      have q0 := hf i hi k v hv
      simp only [Addr.add_at hs, ← Nat.add_assoc] at q0
      exact q0
end Go.Proofs.YtghkfopcjdkieaaDoor
