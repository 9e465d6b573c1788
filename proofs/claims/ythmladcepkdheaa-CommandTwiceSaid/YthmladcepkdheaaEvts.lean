/-
  What the last four laws are given: three bytes, and a slice of events.
-/
import Derived.Test.YthmladcepkdheaaActs
import Derived.Laws.IdiomArrays
namespace Go.Proofs.Ythmladcepkdheaa
open Go.ChangeShapes Go.WideShapes Go.ChangeAt Go.RowKit

/-- Events, as the law's argument has them. -/
structure Evs (w : World) (ad : Option Addr) (len b off : Nat) (f : Nat → Nat × Nat) : Prop where
  at_ : 0 < len → ad = some ⟨b, off, none⟩ ∧ b < w.heap.size
  cell : ∀ i, i < len → w.cell? ⟨b, off + i * 2, none⟩ = some (.int .u8 (f i).1) ∧ w.cell? ⟨b, off + i * 2 + 1, none⟩ = some (.int .u8 (f i).2)
  small : ∀ i, i < len → (f i).1 < 256 ∧ (f i).2 < 256
theorem Evs.frm {w w' : World} {ad : Option Addr} {len b off : Nat} {f : Nat → Nat × Nat} (h : Evs w ad len b off f) (hf : Frm w.heap.size [] w w') : Evs w' ad len b off f := by
  refine ⟨fun h0 => ⟨(h.at_ h0).1, Nat.lt_of_lt_of_le (h.at_ h0).2 hf.size⟩, fun i hi => ?_, h.small⟩
  have hb := (h.at_ (by omega)).2
  obtain ⟨h1, h2⟩ := h.cell i hi
  exact ⟨(hf.cell hb (by simp)).trans h1, (hf.cell hb (by simp)).trans h2⟩

theorem wf_u8 {n : Int} (h : (Lit.int .u8 n).wf = true) : ∃ m : Nat, n = m ∧ m < 256 := by
  simp only [Lit.wf, Bool.and_eq_true, decide_eq_true_eq] at h
  have h1 : (0 : Int) ≤ n := h.1
  have h2 : n ≤ 255 := h.2
  exact ⟨n.toNat, by omega, by omega⟩

set_option maxRecDepth 100000
theorem cells5 : Try.prog.cellsOf 5 = 1 := by kernel_rfl
theorem cells80 : Try.prog.cellsOf 80 = 2 := by kernel_rfl
theorem cells69 : Try.prog.cellsOf 69 = 3 := by kernel_rfl

theorem open_u8 {H : Type} {enc : TypeId × Value → H} {W : World} {v : Value} {d : DataW H} {p : List MemPlace} {r : Reach} {base : Nat} (hv : Value.okWide Try.prog W r base 5 v) (h : DataW.Trod enc Try.prog W 0 (fun _ => true) true 5 v d p) :
    ∃ n : Nat, v = .int .u8 n ∧ n < 256 := by
  obtain ⟨n, rfl, _, _, hw⟩ := open_int Try.underlying5 hv h
  obtain ⟨m, rfl, hm⟩ := wf_u8 hw
  exact ⟨m, rfl, hm⟩

theorem open_bytes3 {H : Type} {enc : TypeId × Value → H} {W : World} {v : Value} {d : DataW H} {p : List MemPlace} {r : Reach} {base : Nat} (hv : Value.okWide Try.prog W r base 69 v) (h : DataW.Trod enc Try.prog W 0 (fun _ => true) true 69 v d p) :
    ∃ a b c : Nat, v = .agg #[.int .u8 a, .int .u8 b, .int .u8 c] ∧ a < 256 ∧ b < 256 ∧ c < 256 := by
  have hv' : ∃ cs, v = .agg cs ∧ cs.size = Try.prog.cellsOf 69 ∧ Row.okWide Try.prog W r base 69 cs := by simpa only [Value.okWide, Try.underlying69] using hv
  obtain ⟨cs, rfl, hsz, _⟩ := hv'
  rw [cells69] at hsz
  obtain ⟨c0, c1, c2, rfl⟩ := Go.Joins.array3 hsz
  obtain ⟨fuel, hf⟩ := h
  have hf' : DataW.trod enc Try.prog W 0 (fun _ => true) true fuel 69 [c0, c1, c2] = some (d, p) := hf
  obtain ⟨y0, y1, y2, n, _, k0, k1, k2⟩ := trod_array3 Try.underlying69 cells5 hf'
  obtain ⟨a0, e0, _, w0⟩ := DataW.trod_int Try.underlying5 k0
  obtain ⟨a1, e1, _, w1⟩ := DataW.trod_int Try.underlying5 k1
  obtain ⟨a2, e2, _, w2⟩ := DataW.trod_int Try.underlying5 k2
  obtain ⟨rfl, _⟩ := List.cons.inj e0
  obtain ⟨rfl, _⟩ := List.cons.inj e1
  obtain ⟨rfl, _⟩ := List.cons.inj e2
  obtain ⟨m0, rfl, h0⟩ := wf_u8 w0
  obtain ⟨m1, rfl, h1⟩ := wf_u8 w1
  obtain ⟨m2, rfl, h2⟩ := wf_u8 w2
  exact ⟨m0, m1, m2, rfl, h0, h1, h2⟩

theorem open_evs {H : Type} {enc : TypeId × Value → H} {W : World} {v : Value} {d : DataW H} {p : List MemPlace} {r : Reach} {base : Nat} (hv : Value.okWide Try.prog W r base 70 v) (h : DataW.Trod enc Try.prog W 0 (fun _ => true) true 70 v d p) :
    ∃ ad len cap b off f, v = .slice ad len cap ∧ len ≤ maxLen ∧ Evs W ad len b off f := by
  obtain ⟨av, lv, cv, rfl⟩ := okWide_slice Try.underlying70 hv
  obtain ⟨m, hm⟩ := h
  rcases Deep.open_slice Try.underlying70 hm with ⟨h1, _⟩ | ⟨a, len, cap, m', n, D, Pl, h1, hb, hle, hmax, hmm, hx, hel⟩
  · simp [Value.cells] at h1
    obtain ⟨rfl, rfl, rfl⟩ := h1
    exact ⟨none, 0, 0, 0, 0, fun _ => (0, 0), rfl, Nat.zero_le _, ⟨by omega, by omega, by omega⟩⟩
  · simp [Value.cells] at h1
    obtain ⟨rfl, rfl, rfl⟩ := h1
    have hm' : m' = cv := by simpa using hmm
    subst hm'
    have each : ∀ i, i < lv → ∃ q : Nat × Nat, W.cell? (a.add (i * 2)) = some (.int .u8 q.1) ∧ W.cell? (a.add (i * 2 + 1)) = some (.int .u8 q.2) ∧ q.1 < 256 ∧ q.2 < 256 := by
      intro i hi
      obtain ⟨cs, hc, ht⟩ := hel i (by omega)
      rw [cells80] at hc
      obtain ⟨_, hlen, hcell⟩ := World.cells?_some hc
      obtain ⟨y0, y1, n', _, _, k0, k1⟩ := trod_struct2 Try.underlying80 ht
      match cs, hlen with
      | [c0, c1], _ =>
        simp only [cells5, List.drop_succ_cons, List.drop_zero, List.take_succ_cons, List.take_zero] at k0 k1
        obtain ⟨a0, e0, _, w0⟩ := DataW.trod_int Try.underlying5 k0
        obtain ⟨a1, e1, _, w1⟩ := DataW.trod_int Try.underlying5 k1
        obtain ⟨rfl, _⟩ := List.cons.inj e0
        obtain ⟨rfl, _⟩ := List.cons.inj e1
        obtain ⟨m0, rfl, l0⟩ := wf_u8 w0
        obtain ⟨m1, rfl, l1⟩ := wf_u8 w1
        have g0 := hcell 0 (by omega)
        have g1 := hcell 1 (by omega)
        simp only [Deep.add_add, List.getElem?_cons_succ, List.getElem?_cons_zero, Nat.add_zero] at g0 g1
        exact ⟨(m0, m1), g0, g1, l0, l1⟩
    obtain ⟨f, hf⟩ := Deep.choose_lt each
    refine ⟨some a, lv, m', a.block, a.off, f, rfl, by omega, ⟨fun h0 => ?_, fun i hi => ?_, fun i hi => (hf i hi).2.2⟩⟩
    · obtain ⟨g0, _⟩ := hf 0 h0
      obtain ⟨hs, hlt⟩ := cell_spot (a := a) (by simpa [Addr.add] using g0)
      exact ⟨congrArg some (by cases a; simp only at hs; rw [hs]), hlt⟩
    · obtain ⟨g0, _⟩ := hf 0 (by omega)
      obtain ⟨hs, hlt⟩ := cell_spot (a := a) (by simpa [Addr.add] using g0)
      obtain ⟨q0, q1, _, _⟩ := hf i hi
      simp only [Addr.add_at hs, ← Nat.add_assoc] at q0 q1
      exact ⟨q0, q1⟩
end Go.Proofs.Ythmladcepkdheaa
