/-
  The calls that a law is given: a slice of structs of five integers, opened.
-/
import Derived.Test.YthmladcepkdheaaRows
import Derived.Test.YthmladcepkdheaaLib1
import Derived.Deep.Slices
import Derived.Deep.Strs
import Derived.Lib.SmallJoins
namespace Go.Proofs.Ythmladcepkdheaa
open Go.ChangeShapes Go.WideShapes Go.ChangeAt Go.RowKit

/-- Calls, as the law's argument has them. -/
structure Acts (w : World) (ad : Option Addr) (len b off : Nat) (f : Nat → Int × Int × Int × Int × Int) : Prop where
  at_ : 0 < len → ad = some ⟨b, off, none⟩ ∧ b < w.heap.size
  cell : ∀ i, i < len → w.cell? ⟨b, off + i * 5, none⟩ = some (.int .i64 (f i).1) ∧ w.cell? ⟨b, off + i * 5 + 1, none⟩ = some (.int .i64 (f i).2.1) ∧ w.cell? ⟨b, off + i * 5 + 2, none⟩ = some (.int .i64 (f i).2.2.1) ∧
    w.cell? ⟨b, off + i * 5 + 3, none⟩ = some (.int .i64 (f i).2.2.2.1) ∧ w.cell? ⟨b, off + i * 5 + 4, none⟩ = some (.int .i64 (f i).2.2.2.2)
theorem Acts.frm {w w' : World} {ad : Option Addr} {len b off : Nat} {f : Nat → Int × Int × Int × Int × Int} (h : Acts w ad len b off f) (hf : Frm w.heap.size [] w w') : Acts w' ad len b off f := by
  refine ⟨fun h0 => ⟨(h.at_ h0).1, Nat.lt_of_lt_of_le (h.at_ h0).2 hf.size⟩, fun i hi => ?_⟩
  have hb := (h.at_ (by omega)).2
  obtain ⟨h1, h2, h3, h4, h5⟩ := h.cell i hi
  exact ⟨(hf.cell hb (by simp)).trans h1, (hf.cell hb (by simp)).trans h2, (hf.cell hb (by simp)).trans h3, (hf.cell hb (by simp)).trans h4, (hf.cell hb (by simp)).trans h5⟩


theorem Addr.add_at {a : Addr} (h : a.spot = none) (k : Nat) : a.add k = ⟨a.block, a.off + k, none⟩ := by
  unfold Addr.add
  split
  · rename_i e; subst e; cases a; simp only at h; rw [h]; rfl
  · rfl
theorem cell_spot {w : World} {a : Addr} {v : Value} (h : w.cell? a = some v) : a.spot = none ∧ a.block < w.heap.size := by
  unfold World.cell? at h
  split at h
  · rename_i c e f hh
    refine ⟨?_, (Array.getElem?_eq_some_iff.1 hh).1⟩
    cases hs : a.spot with
    | none => rfl
    | some x => simp [hs] at h
  · cases h

set_option maxRecDepth 100000
theorem cells3 : Try.prog.cellsOf 3 = 1 := by kernel_rfl
theorem cells41 : Try.prog.cellsOf 41 = 3 := by kernel_rfl
theorem cells43 : Try.prog.cellsOf 43 = 5 := by kernel_rfl

theorem open_acts {H : Type} {enc : TypeId × Value → H} {W : World} {v : Value} {d : DataW H} {p : List MemPlace} {r : Reach} {base : Nat} (hv : Value.okWide Try.prog W r base 36 v) (h : DataW.Trod enc Try.prog W 0 (fun _ => true) true 36 v d p) :
    ∃ ad len cap b off f, v = .slice ad len cap ∧ len ≤ maxLen ∧ Acts W ad len b off f := by
  obtain ⟨av, lv, cv, rfl⟩ := okWide_slice Try.underlying36 hv
  obtain ⟨m, hm⟩ := h
  rcases Deep.open_slice Try.underlying36 hm with ⟨h1, _⟩ | ⟨a, len, cap, m', n, D, Pl, h1, hb, hle, hmax, hmm, hx, hel⟩
  · simp [Value.cells] at h1
    obtain ⟨rfl, rfl, rfl⟩ := h1
    exact ⟨none, 0, 0, 0, 0, fun _ => (0, 0, 0, 0, 0), rfl, Nat.zero_le _, ⟨by omega, by omega⟩⟩
  · simp [Value.cells] at h1
    obtain ⟨rfl, rfl, rfl⟩ := h1
    have hm' : m' = cv := by simpa using hmm
    subst hm'
    have each : ∀ i, i < lv → ∃ q : Int × Int × Int × Int × Int, W.cell? (a.add (i * 5)) = some (.int .i64 q.1) ∧ W.cell? (a.add (i * 5 + 1)) = some (.int .i64 q.2.1) ∧ W.cell? (a.add (i * 5 + 2)) = some (.int .i64 q.2.2.1) ∧
        W.cell? (a.add (i * 5 + 3)) = some (.int .i64 q.2.2.2.1) ∧ W.cell? (a.add (i * 5 + 4)) = some (.int .i64 q.2.2.2.2) := by
      intro i hi
      obtain ⟨cs, hc, ht⟩ := hel i (by omega)
      rw [cells43] at hc
      obtain ⟨_, hlen, hcell⟩ := World.cells?_some hc
      obtain ⟨y0, y1, y2, n', _, _, k0, k1, k2⟩ := Deep.trod_struct3 Try.underlying43 ht
      obtain ⟨z0, z1, z2, n'', _, _, l0, l1, l2⟩ := Deep.trod_struct3 Try.underlying41 k2
      match cs, hlen with
      | [c0, c1, c2, c3, c4], _ =>
        simp only [cells3, cells41, List.drop_succ_cons, List.drop_zero, List.take_succ_cons, List.take_zero] at k0 k1 l0 l1 l2
        obtain ⟨a0, e0, _, _⟩ := DataW.trod_int Try.underlying3 k0
        obtain ⟨a1, e1, _, _⟩ := DataW.trod_int Try.underlying3 k1
        obtain ⟨a2, e2, _, _⟩ := DataW.trod_int Try.underlying3 l0
        obtain ⟨a3, e3, _, _⟩ := DataW.trod_int Try.underlying3 l1
        obtain ⟨a4, e4, _, _⟩ := DataW.trod_int Try.underlying3 l2
        obtain ⟨rfl, _⟩ := List.cons.inj e0
        obtain ⟨rfl, _⟩ := List.cons.inj e1
        obtain ⟨rfl, _⟩ := List.cons.inj e2
        obtain ⟨rfl, _⟩ := List.cons.inj e3
        obtain ⟨rfl, _⟩ := List.cons.inj e4
        have g0 := hcell 0 (by omega)
        have g1 := hcell 1 (by omega)
        have g2 := hcell 2 (by omega)
        have g3 := hcell 3 (by omega)
        have g4 := hcell 4 (by omega)
        simp only [Deep.add_add, List.getElem?_cons_succ, List.getElem?_cons_zero, Nat.add_zero] at g0 g1 g2 g3 g4
        exact ⟨(a0, a1, a2, a3, a4), g0, g1, g2, g3, g4⟩
    obtain ⟨f, hf⟩ := Deep.choose_lt each
    refine ⟨some a, lv, m', a.block, a.off, f, rfl, by omega, ⟨fun h0 => ?_, fun i hi => ?_⟩⟩
    · obtain ⟨g0, _⟩ := hf 0 h0
      obtain ⟨hs, hlt⟩ := cell_spot (a := a) (by simpa [Addr.add] using g0)
      exact ⟨congrArg some (by cases a; simp only at hs; rw [hs]), hlt⟩
    · obtain ⟨g0, _⟩ := hf 0 (by omega)
      obtain ⟨hs, hlt⟩ := cell_spot (a := a) (by simpa [Addr.add] using g0)
      obtain ⟨q0, q1, q2, q3, q4⟩ := hf i hi
      simp only [Addr.add_at hs, ← Nat.add_assoc] at q0 q1 q2 q3 q4
      exact ⟨q0, q1, q2, q3, q4⟩
end Go.Proofs.Ythmladcepkdheaa
