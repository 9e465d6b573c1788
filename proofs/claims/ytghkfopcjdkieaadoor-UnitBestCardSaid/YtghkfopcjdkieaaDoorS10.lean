/-
  A team, opened; whether it is more than a statement looks at.
-/
import Derived.Test.YtghkfopcjdkieaaDoorS9
namespace Go.Proofs.YtghkfopcjdkieaaDoor
set_option linter.all false
set_option linter.unusedSimpArgs false
set_option linter.unusedVariables false
open Go.ChangeShapes Go.WideShapes Go.ChangeAt Go.RowKit
set_option maxRecDepth 100000

theorem open_i64s {H : Type} {enc : TypeId × Value → H} {W : World} {v : Value} {d : DataW H} {p : List MemPlace} {r : Reach} {base : Nat} (hv : Value.okWide Tryd.prog W r base 64 v) (h : DataW.Trod enc Tryd.prog W 0 (fun _ => true) true 64 v d p) :
    ∃ ad len cap b off, ∃ L : Nat → Int, v = .slice ad len cap ∧ Rw W 1 ad b off len fun i => [Value.int .i64 (L i)] := by
  obtain ⟨av, lv, cv, rfl⟩ := okWide_slice Tryd.underlying64 hv
  obtain ⟨m, hm⟩ := h
  rcases Deep.open_slice Tryd.underlying64 hm with ⟨h1, _⟩ | ⟨a, len, cap, m', n, D, Pl, h1, hb, hle, hmax, hmm, hx, hel⟩
  · simp [Value.cells] at h1
    obtain ⟨rfl, rfl, rfl⟩ := h1
    exact ⟨none, 0, 0, 0, 0, fun _ => 0, rfl, ⟨fun h => absurd h (by omega), Nat.zero_le _, fun i hi => absurd hi (by omega)⟩⟩
  · simp [Value.cells] at h1
    obtain ⟨rfl, rfl, rfl⟩ := h1
    have hm' : m' = cv := by simpa using hmm
    subst hm'
    have each : ∀ i, i < lv → ∃ q : Int, ∀ k v, ([Value.int .i64 q])[k]? = some v → W.cell? (a.add (i * 1 + k)) = some v := by
      intro i hi
      obtain ⟨cs, hc, ht⟩ := hel i (by omega)
      rw [cells3] at hc
      obtain ⟨_, hlen, hcell⟩ := World.cells?_some hc
      obtain ⟨a0, e0, _, _⟩ := DataW.trod_int Tryd.underlying3 ht
      refine ⟨a0, fun k v hv => ?_⟩
      have hk : k < 1 := (List.getElem?_eq_some_iff.1 hv).1
      rw [← Deep.add_add, hcell k hk, e0]
      exact hv
    obtain ⟨f, hf⟩ := Deep.choose_lt each
    refine ⟨some a, lv, m', a.block, a.off, f, rfl, ⟨fun h0 => ?_, by omega, fun i hi k v hv => ?_⟩⟩
    · have g0 := hf 0 h0 0 _ rfl
      obtain ⟨hs, hlt⟩ := cell_spot (a := a) (by simpa [Addr.add] using g0)
      exact congrArg some (by cases a; simp only at hs; rw [hs])
    · have g0 := hf 0 (by omega) 0 _ rfl
      obtain ⟨hs, hlt⟩ := cell_spot (a := a) (by simpa [Addr.add] using g0)
      have q0 := hf i hi k v hv
      simp only [Addr.add_at hs, ← Nat.add_assoc] at q0
      exact q0
theorem open_goals {H : Type} {enc : TypeId × Value → H} {W : World} {v : Value} {d : DataW H} {p : List MemPlace} {r : Reach} {base : Nat} (hv : Value.okWide Tryd.prog W r base 75 v) (h : DataW.Trod enc Tryd.prog W 0 (fun _ => true) true 75 v d p) :
    ∃ ad len cap b off, ∃ L : Nat → Int × Int, v = .slice ad len cap ∧ Rw W 2 ad b off len fun i => [Value.int .i64 (L i).1, Value.int .i64 (L i).2] := by
  obtain ⟨av, lv, cv, rfl⟩ := okWide_slice Tryd.underlying75 hv
  obtain ⟨m, hm⟩ := h
  rcases Deep.open_slice Tryd.underlying75 hm with ⟨h1, _⟩ | ⟨a, len, cap, m', n, D, Pl, h1, hb, hle, hmax, hmm, hx, hel⟩
  · simp [Value.cells] at h1
    obtain ⟨rfl, rfl, rfl⟩ := h1
    exact ⟨none, 0, 0, 0, 0, fun _ => (0, 0), rfl, ⟨fun h => absurd h (by omega), Nat.zero_le _, fun i hi => absurd hi (by omega)⟩⟩
  · simp [Value.cells] at h1
    obtain ⟨rfl, rfl, rfl⟩ := h1
    have hm' : m' = cv := by simpa using hmm
    subst hm'
    have each : ∀ i, i < lv → ∃ q : Int × Int, ∀ k v, ([Value.int .i64 q.1, Value.int .i64 q.2])[k]? = some v → W.cell? (a.add (i * 2 + k)) = some v := by
      intro i hi
      obtain ⟨cs, hc, ht⟩ := hel i (by omega)
      rw [cells23] at hc
      obtain ⟨_, hlen, hcell⟩ := World.cells?_some hc
      obtain ⟨z0, z1, n2, _, _, l0, l1⟩ := trod_struct2 Tryd.underlying23 ht
      obtain ⟨c0, c1, rfl⟩ := list2 hlen
      simp only [cells3, List.drop_succ_cons, List.drop_zero, List.take_succ_cons, List.take_zero] at l0 l1
      obtain ⟨a0, e0, _, _⟩ := DataW.trod_int Tryd.underlying3 l0
      obtain ⟨a1, e1, _, _⟩ := DataW.trod_int Tryd.underlying3 l1
      obtain ⟨rfl, _⟩ := List.cons.inj e0
      obtain ⟨rfl, _⟩ := List.cons.inj e1
      refine ⟨(a0, a1), fun k v hv => ?_⟩
      have hk : k < 2 := (List.getElem?_eq_some_iff.1 hv).1
      rw [← Deep.add_add, hcell k hk]
      exact hv
    obtain ⟨f, hf⟩ := Deep.choose_lt each
    refine ⟨some a, lv, m', a.block, a.off, f, rfl, ⟨fun h0 => ?_, by omega, fun i hi k v hv => ?_⟩⟩
    · have g0 := hf 0 h0 0 _ rfl
      obtain ⟨hs, hlt⟩ := cell_spot (a := a) (by simpa [Addr.add] using g0)
      exact congrArg some (by cases a; simp only at hs; rw [hs])
    · have g0 := hf 0 (by omega) 0 _ rfl
      obtain ⟨hs, hlt⟩ := cell_spot (a := a) (by simpa [Addr.add] using g0)
      have q0 := hf i hi k v hv
      simp only [Addr.add_at hs, ← Nat.add_assoc] at q0
      exact q0

def teamC (ua : Option Addr) (N ucap : Nat) (sa : Option Addr) (M scap : Nat) (ga : Option Addr) (G gcap : Nat) : List Value := [.slice ua N ucap, .slice sa M scap, .slice ga G gcap]
theorem info77 : (Tryd.prog.info? 77).map (fun i => i.size) = some 3 := by kernel_rfl
theorem open_team {H : Type} {enc : TypeId × Value → H} {W : World} {v : Value} {d : DataW H} {p : List MemPlace} {r : Reach} {base : Nat} (hv : Value.okWide Tryd.prog W r base 77 v) (h : DataW.Trod enc Tryd.prog W 0 (fun _ => true) true 77 v d p) :
    ∃ ua ub uo N ucap, ∃ U : Nat → UC, ∃ Sn : Nat → ByteArray, ∃ sa sb so M scap, ∃ T : Nat → Int, ∃ ga gb go_ G gcap, ∃ Q : Nat → Int × Int, v = .agg (teamC ua N ucap sa M scap ga G gcap).toArray ∧ (∀ i, i < N → (U i).name = .string (Sn i)) ∧ TeamW W ua ub uo N U sa sb so M T ga gb go_ G Q := by
  have hv' : ∃ cs, v = .agg cs ∧ cs.size = Tryd.prog.cellsOf 77 ∧ Row.okWide Tryd.prog W r base 77 cs := by simpa only [Value.okWide, Tryd.underlying77] using hv
  obtain ⟨⟨l⟩, rfl, hsz, ts, hts, _, hc⟩ := hv'
  rw [cells77] at hsz
  obtain rfl := Option.some.inj (leaves77.symm.trans hts)
  obtain ⟨a, b, c, rfl⟩ := list3 (show l.length = 3 from hsz)
  obtain ⟨_, ea, ha⟩ := hc 0 a rfl
  obtain ⟨_, eb, hb⟩ := hc 1 b rfl
  obtain ⟨_, ec, hc'⟩ := hc 2 c rfl
  cases ea; cases eb; cases ec
  have ha2 : Value.okWide Tryd.prog W r base 74 a := by simpa only [Value.okWide, Tryd.underlying74] using ha
  have hb2 : Value.okWide Tryd.prog W r base 64 b := by simpa only [Value.okWide, Tryd.underlying64] using hb
  have hc2 : Value.okWide Tryd.prog W r base 75 c := by simpa only [Value.okWide, Tryd.underlying75] using hc'
  obtain ⟨m, hm⟩ := h
  obtain ⟨xs, n', _, _, hl, hlen2, hf⟩ := DataW.trod_struct Tryd.underlying77 hm
  obtain ⟨y0, y1, y2, rfl⟩ := list3 (show xs.length = 3 from hlen2)
  have k0 := hf 0 _ rfl
  have k1 := hf 1 _ rfl
  have k2 := hf 2 _ rfl
  change DataW.trod enc Tryd.prog W 0 (fun _ => true) true n' 74 (List.take (Tryd.prog.cellsOf 74) (List.drop 0 [a, b, c])) = some y0 at k0
  change DataW.trod enc Tryd.prog W 0 (fun _ => true) true n' 64 (List.take (Tryd.prog.cellsOf 64) (List.drop 1 [a, b, c])) = some y1 at k1
  change DataW.trod enc Tryd.prog W 0 (fun _ => true) true n' 75 (List.take (Tryd.prog.cellsOf 75) (List.drop 2 [a, b, c])) = some y2 at k2
  rw [cells74] at k0
  rw [cells64] at k1
  rw [cells75] at k2
  simp only [List.drop_succ_cons, List.drop_zero, List.take_succ_cons, List.take_zero] at k0 k1 k2
  have ha3 := ha2
  have hb3 := hb2
  have hc3 := hc2
  obtain ⟨aa, al, ac, rfl⟩ := okWide_slice Tryd.underlying74 ha3
  obtain ⟨ba, bl, bc, rfl⟩ := okWide_slice Tryd.underlying64 hb3
  obtain ⟨ca, cl, cc, rfl⟩ := okWide_slice Tryd.underlying75 hc3
  obtain ⟨ua, N, ucap, ub, uo, U, Sn, e1, h1, hn⟩ := open_units (d := y0.1) (p := y0.2) ha2 ⟨n', k0⟩
  obtain ⟨sa, M, scap, sb, so, T, e2, h2⟩ := open_i64s (d := y1.1) (p := y1.2) hb2 ⟨n', k1⟩
  obtain ⟨ga, G, gcap, gb, go_, Q, e3, h3⟩ := open_goals (d := y2.1) (p := y2.2) hc2 ⟨n', k2⟩
  cases e1
  cases e2
  cases e3
  exact ⟨_, ub, uo, _, _, U, Sn, _, sb, so, _, _, T, _, gb, go_, _, _, Q, rfl, hn, h1, h2, h3⟩
end Go.Proofs.YtghkfopcjdkieaaDoor
