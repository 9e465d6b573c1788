/-
  The arguments, opened: a plan.
-/
import Derived.Test.YtfmigicmfolbjaaDoorP3
import Derived.Test.YtfmigicmfolbjaaDoorB20
namespace Go.Proofs.YtfmigicmfolbjaaDoor
set_option linter.all false
set_option linter.unusedSimpArgs false
set_option linter.unusedVariables false
open Go.ChangeShapes Go.WideShapes Go.ChangeAt Go.RowKit
set_option maxRecDepth 100000

theorem cellsE75 : Tryd.prog.cellsOf 75 = 3 := by kernel_rfl
theorem cellsE78 : Tryd.prog.cellsOf 78 = 2 := by kernel_rfl
theorem cellsE66 : Tryd.prog.cellsOf 66 = 3 := by kernel_rfl
theorem cellsE26 : Tryd.prog.cellsOf 26 = 1 := by kernel_rfl
theorem cellsE63 : Tryd.prog.cellsOf 63 = 1 := by kernel_rfl
theorem cellsE64 : Tryd.prog.cellsOf 64 = 1 := by kernel_rfl
instance : Inhabited LI := ⟨⟨none, 0, 0, 0⟩⟩
section
variable {H : Type} {enc : TypeId × Value → H} {W : World}
set_option maxHeartbeats 1000000
theorem getD_range {α : Type} (f : Nat → α) {n i : Nat} (d : α) (hi : i < n) : ((List.range n).map f).getD i d = f i := by
  simp [List.getD_eq_getElem?_getD, hi]
theorem ints_trod {m : Nat} {cs : List Value} {dp : DataW H × List MemPlace} (hm : DataW.trod enc Tryd.prog W 0 (fun _ => true) true m 26 cs = some dp) : ∃ (x : LI) (l : List Int), cs = [x.v l] ∧ IntsAt W x l := by
  obtain ⟨d, p⟩ := dp
  rcases Deep.open_slice Tryd.underlying26 hm with ⟨h1, _⟩ | ⟨a, len, cap, m', n, D, Pl, h1, hb, hle, hmax, hmm, hx, hel⟩
  · exact ⟨⟨none, 0, 0, 0⟩, [], h1, ⟨fun h => absurd h (by simp), Nat.zero_le _, fun i hi => absurd hi (by simp)⟩⟩
  · have hm0 : m' = cap := by simpa using hmm
    have hm' := hm0.symm
    subst hm'
    have each : ∀ i, i < len → ∃ q : Int, W.cell? (a.add i) = some (.int .i64 q) := by
      intro i hi
      obtain ⟨cs, hc, ht⟩ := hel i (by omega)
      rw [cells3] at hc
      obtain ⟨_, hlen, hcell⟩ := World.cells?_some hc
      obtain ⟨k, e, _, _⟩ := DataW.trod_int Tryd.underlying3 ht
      refine ⟨k, ?_⟩
      have := hcell 0 (by omega)
      rw [e] at this
      simpa [Deep.add_add] using this
    obtain ⟨f, hf⟩ := Deep.choose_lt each
    have hl : ((List.range len).map f).length = len := by simp
    refine ⟨⟨some a, a.block, a.off, cap⟩, (List.range len).map f, ?_, ⟨fun h0 => ?_, ?_, fun i hi k v hv => ?_⟩⟩
    · rw [h1]; unfold LI.v; rw [hl]
    · rw [hl] at h0
      have g0 := hf 0 h0
      obtain ⟨hs, hlt⟩ := cell_spot (a := a) (by simpa [Addr.add] using g0)
      exact congrArg some (by cases a; simp only at hs; rw [hs])
    · rw [hl]; omega
    · rw [hl] at hi
      have g0 := hf 0 (by omega)
      obtain ⟨hs, hlt⟩ := cell_spot (a := a) (by simpa [Addr.add] using g0)
      have q0 := hf i hi
      simp only [Addr.add_at hs] at q0
      dsimp only at hv ⊢
      rw [getD_range f 0 hi] at hv
      have hk : k = 0 := by
        have := (List.getElem?_eq_some_iff.1 hv).1
        simp at this
        omega
      subst hk
      obtain rfl := Option.some.inj hv
      simpa using q0
theorem steps_trod {m : Nat} {cs : List Value} {dp : DataW H × List MemPlace} (hm : DataW.trod enc Tryd.prog W 0 (fun _ => true) true m 63 cs = some dp) :
    ∃ (ad : Option Addr) (b off cap : Nat) (X : Nat → SI) (R : List RS), cs = [.slice ad R.length cap] ∧ StepsAt W ad b off X R := by
  obtain ⟨d, p⟩ := dp
  rcases Deep.open_slice Tryd.underlying63 hm with ⟨h1, _⟩ | ⟨a, len, cap, m', n, D, Pl, h1, hb, hle, hmax, hmm, hx, hel⟩
  · exact ⟨none, 0, 0, 0, fun _ => ⟨default, default, default⟩, [], h1, ⟨⟨fun h => absurd h (by simp), Nat.zero_le _, fun i hi => absurd hi (by simp)⟩, fun i hi => absurd hi (by simp)⟩⟩
  · have hm0 : m' = cap := by simpa using hmm
    have hm' := hm0.symm
    subst hm'
    have each : ∀ i, i < len → ∃ q : SI × RS, (∀ k v, (stepC q.1 q.2)[k]? = some v → W.cell? (a.add (i * 3 + k)) = some v) ∧ StepAt W q.1 q.2 := by
      intro i hi
      obtain ⟨cs, hc, ht⟩ := hel i (by omega)
      rw [cellsE75] at hc
      obtain ⟨_, hlen, hcell⟩ := World.cells?_some hc
      obtain ⟨xs, n', _, _, hl, hlen2, hf⟩ := DataW.trod_struct Tryd.underlying75 ht
      obtain ⟨c0, c1, c2, rfl⟩ := list3 hlen
      obtain ⟨y0, y1, y2, rfl⟩ := list3 (show xs.length = 3 from hlen2)
      have k0 := hf 0 _ rfl
      have k1 := hf 1 _ rfl
      have k2 := hf 2 _ rfl
      simp only [cellsE26, List.drop_succ_cons, List.drop_zero, List.take_succ_cons, List.take_zero, List.getElem?_cons_succ, List.getElem?_cons_zero] at k0 k1 k2
      obtain ⟨x0, l0, e0, h0⟩ := ints_trod k0
      obtain ⟨x1, l1, e1, h1⟩ := ints_trod k1
      obtain ⟨x2, l2, e2, h2⟩ := ints_trod k2
      obtain ⟨rfl, _⟩ := List.cons.inj e0
      obtain ⟨rfl, _⟩ := List.cons.inj e1
      obtain ⟨rfl, _⟩ := List.cons.inj e2
      refine ⟨(⟨x0, x1, x2⟩, ⟨l0, l1, l2⟩), fun k v hv => ?_, ⟨h0, h1, h2⟩⟩
      have hk : k < 3 := (List.getElem?_eq_some_iff.1 hv).1
      rw [← Deep.add_add, hcell k hk]
      exact hv
    have : Inhabited (SI × RS) := ⟨(⟨default, default, default⟩, rs0)⟩
    obtain ⟨f, hf⟩ := Deep.choose_lt each
    have hl : ((List.range len).map fun i => (f i).2).length = len := by simp
    refine ⟨some a, a.block, a.off, cap, fun i => (f i).1, (List.range len).map fun i => (f i).2, ?_, ⟨⟨fun h0 => ?_, ?_, fun i hi k v hv => ?_⟩, fun i hi => ?_⟩⟩
    · rw [h1, hl]
    · rw [hl] at h0
      have g0 := (hf 0 h0).1 0 _ rfl
      obtain ⟨hs, hlt⟩ := cell_spot (a := a) (by simpa [Addr.add] using g0)
      exact congrArg some (by cases a; simp only at hs; rw [hs])
    · rw [hl]; omega
    · rw [hl] at hi
      have g0 := (hf 0 (by omega)).1 0 _ rfl
      obtain ⟨hs, hlt⟩ := cell_spot (a := a) (by simpa [Addr.add] using g0)
      try dsimp only at hv
      rw [getD_range _ rs0 hi] at hv
      have q0 := (hf i hi).1 k v hv
      simp only [Addr.add_at hs, ← Nat.add_assoc] at q0
      exact q0
    · rw [hl] at hi
      rw [getD_range _ rs0 hi]
      exact (hf i hi).2
theorem edges_trod {m : Nat} {cs : List Value} {dp : DataW H × List MemPlace} (hm : DataW.trod enc Tryd.prog W 0 (fun _ => true) true m 64 cs = some dp) :
    ∃ (ad : Option Addr) (b off cap : Nat) (E : List (Int × Int)), cs = [.slice ad E.length cap] ∧ Rw W 2 ad b off E.length fun i => edgeC (E.getD i (0, 0)) := by
  obtain ⟨d, p⟩ := dp
  rcases Deep.open_slice Tryd.underlying64 hm with ⟨h1, _⟩ | ⟨a, len, cap, m', n, D, Pl, h1, hb, hle, hmax, hmm, hx, hel⟩
  · exact ⟨none, 0, 0, 0, [], h1, ⟨fun h => absurd h (by simp), Nat.zero_le _, fun i hi => absurd hi (by simp)⟩⟩
  · have hm0 : m' = cap := by simpa using hmm
    have hm' := hm0.symm
    subst hm'
    have each : ∀ i, i < len → ∃ q : Int × Int, (∀ k v, (edgeC q)[k]? = some v → W.cell? (a.add (i * 2 + k)) = some v) := by
      intro i hi
      obtain ⟨cs, hc, ht⟩ := hel i (by omega)
      rw [cellsE78] at hc
      obtain ⟨_, hlen, hcell⟩ := World.cells?_some hc
      obtain ⟨xs, n', _, _, hl, hlen2, hf⟩ := DataW.trod_struct Tryd.underlying78 ht
      obtain ⟨c0, c1, rfl⟩ := list2 hlen
      obtain ⟨y0, y1, rfl⟩ := list2 (show xs.length = 2 from hlen2)
      have k0 := hf 0 _ rfl
      have k1 := hf 1 _ rfl
      simp only [cells3, List.drop_succ_cons, List.drop_zero, List.take_succ_cons, List.take_zero, List.getElem?_cons_succ, List.getElem?_cons_zero] at k0 k1
      obtain ⟨a0, e0, _, _⟩ := DataW.trod_int Tryd.underlying3 k0
      obtain ⟨a1, e1, _, _⟩ := DataW.trod_int Tryd.underlying3 k1
      obtain ⟨rfl, _⟩ := List.cons.inj e0
      obtain ⟨rfl, _⟩ := List.cons.inj e1
      refine ⟨(a0, a1), fun k v hv => ?_⟩
      have hk : k < 2 := (List.getElem?_eq_some_iff.1 hv).1
      rw [← Deep.add_add, hcell k hk]
      exact hv
    obtain ⟨f, hf⟩ := Deep.choose_lt each
    have hl : ((List.range len).map f).length = len := by simp
    refine ⟨some a, a.block, a.off, cap, (List.range len).map f, ?_, ⟨fun h0 => ?_, ?_, fun i hi k v hv => ?_⟩⟩
    · rw [h1, hl]
    · rw [hl] at h0
      have g0 := (hf 0 h0) 0 _ rfl
      obtain ⟨hs, hlt⟩ := cell_spot (a := a) (by simpa [Addr.add] using g0)
      exact congrArg some (by cases a; simp only at hs; rw [hs])
    · rw [hl]; omega
    · rw [hl] at hi
      have g0 := (hf 0 (by omega)) 0 _ rfl
      obtain ⟨hs, hlt⟩ := cell_spot (a := a) (by simpa [Addr.add] using g0)
      try dsimp only at hv
      rw [getD_range _ (0, 0) hi] at hv
      have q0 := (hf i hi) k v hv
      simp only [Addr.add_at hs, ← Nat.add_assoc] at q0
      exact q0
theorem open_plan {v : Value} {d : DataW H} {p : List MemPlace} {r : Reach} {base : Nat} (hv : Value.okWide Tryd.prog W r base 66 v) (h : DataW.Trod enc Tryd.prog W 0 (fun _ => true) true 66 v d p) :
    ∃ (q : RPos) (R : Raw), v = .agg (rawC q R).toArray ∧ RawAt W q R := by
  have hv' : ∃ cs, v = .agg cs ∧ cs.size = Tryd.prog.cellsOf 66 ∧ Row.okWide Tryd.prog W r base 66 cs := by simpa only [Value.okWide, Tryd.underlying66] using hv
  obtain ⟨⟨l⟩, rfl, hsz, _⟩ := hv'
  rw [cellsE66] at hsz
  obtain ⟨a, b, c, rfl⟩ := list3 (show l.length = 3 from hsz)
  obtain ⟨m, hm⟩ := h
  obtain ⟨xs, n', _, _, hl, hlen2, hf⟩ := DataW.trod_struct Tryd.underlying66 hm
  obtain ⟨y0, y1, y2, rfl⟩ := list3 (show xs.length = 3 from hlen2)
  have k0 := hf 0 _ rfl
  have k1 := hf 1 _ rfl
  have k2 := hf 2 _ rfl
  change DataW.trod enc Tryd.prog W 0 (fun _ => true) true n' 26 (List.take (Tryd.prog.cellsOf 26) (List.drop 0 [a, b, c])) = some y0 at k0
  change DataW.trod enc Tryd.prog W 0 (fun _ => true) true n' 63 (List.take (Tryd.prog.cellsOf 63) (List.drop 1 [a, b, c])) = some y1 at k1
  change DataW.trod enc Tryd.prog W 0 (fun _ => true) true n' 64 (List.take (Tryd.prog.cellsOf 64) (List.drop 2 [a, b, c])) = some y2 at k2
  rw [cellsE26] at k0
  rw [cellsE63] at k1
  rw [cellsE64] at k2
  simp only [List.drop_succ_cons, List.drop_zero, List.take_succ_cons, List.take_zero] at k0 k1 k2
  obtain ⟨x, l, e0, h0⟩ := ints_trod k0
  obtain ⟨sa, sb, so, sc, X, S, e1, h1⟩ := steps_trod k1
  obtain ⟨ea, eb, eo, ec, E, e2, h2⟩ := edges_trod k2
  obtain ⟨rfl, _⟩ := List.cons.inj e0
  obtain ⟨rfl, _⟩ := List.cons.inj e1
  obtain ⟨rfl, _⟩ := List.cons.inj e2
  exact ⟨⟨x, sa, sb, so, sc, X, ea, eb, eo, ec⟩, ⟨l, S, E⟩, rfl, ⟨h0, h1, h2⟩⟩
theorem open_u8s {v : Value} {d : DataW H} {p : List MemPlace} {r : Reach} {base : Nat} (hv : Value.okWide Tryd.prog W r base 67 v) (h : DataW.Trod enc Tryd.prog W 0 (fun _ => true) true 67 v d p) :
    ∃ ad len cap b off, ∃ T : Nat → Int, v = .slice ad len cap ∧ (Rw W 1 ad b off len fun i => [.int .u8 (T i)]) ∧ ∀ i, i < len → 0 ≤ T i ∧ T i ≤ 255 := by
  obtain ⟨av, lv, cv, rfl⟩ := okWide_slice Tryd.underlying67 hv
  obtain ⟨m, hm⟩ := h
  rcases Deep.open_slice Tryd.underlying67 hm with ⟨h1, _⟩ | ⟨a, len, cap, m', n, D, Pl, h1, hb, hle, hmax, hmm, hx, hel⟩
  · simp [Value.cells] at h1
    obtain ⟨rfl, rfl, rfl⟩ := h1
    exact ⟨none, 0, 0, 0, 0, fun _ => 0, rfl, ⟨fun h => absurd h (by omega), Nat.zero_le _, fun i hi => absurd hi (by omega)⟩, fun i hi => absurd hi (by omega)⟩
  · simp [Value.cells] at h1
    obtain ⟨rfl, rfl, rfl⟩ := h1
    have hm0 : m' = cv := by simpa using hmm
    have hm' := hm0.symm
    subst hm'
    have each : ∀ i, i < lv → ∃ q : Int, W.cell? (a.add i) = some (.int .u8 q) ∧ 0 ≤ q ∧ q ≤ 255 := by
      intro i hi
      obtain ⟨cs, hc, ht⟩ := hel i (by omega)
      rw [show Tryd.prog.cellsOf 5 = 1 by kernel_rfl] at hc
      obtain ⟨_, hlen, hcell⟩ := World.cells?_some hc
      obtain ⟨k, e, _, hw⟩ := DataW.trod_int Tryd.underlying5 ht
      refine ⟨k, ?_, wf_u8 hw⟩
      have := hcell 0 (by omega)
      rw [e] at this
      simpa [Deep.add_add] using this
    obtain ⟨f, hf⟩ := Deep.choose_lt each
    refine ⟨some a, lv, cv, a.block, a.off, f, rfl, ⟨fun h0 => ?_, by omega, fun i hi k v hv => ?_⟩, fun i hi => (hf i hi).2⟩
    · have g0 := (hf 0 h0).1
      obtain ⟨hs, hlt⟩ := cell_spot (a := a) (by simpa [Addr.add] using g0)
      exact congrArg some (by cases a; simp only at hs; rw [hs])
    · have g0 := (hf 0 (by omega)).1
      obtain ⟨hs, hlt⟩ := cell_spot (a := a) (by simpa [Addr.add] using g0)
      have q0 := (hf i hi).1
      simp only [Addr.add_at hs] at q0
      have hk : k = 0 := by
        have := (List.getElem?_eq_some_iff.1 hv).1
        simp at this
        omega
      subst hk
      obtain rfl := Option.some.inj hv
      simpa using q0
end
end Go.Proofs.YtfmigicmfolbjaaDoor
