/-
  The arguments, opened: small integers.
-/
import Derived.Test.YtfmigicmfolbjaaDoorB20
namespace Go.Proofs.YtfmigicmfolbjaaDoor
set_option linter.all false
set_option linter.unusedSimpArgs false
set_option linter.unusedVariables false
open Go.ChangeShapes Go.WideShapes Go.ChangeAt Go.RowKit
set_option maxRecDepth 100000

section
variable {H : Type} {enc : TypeId × Value → H} {W : World} {v : Value} {d : DataW H} {p : List MemPlace} {r : Reach} {base : Nat}
theorem wf_u16 {n : Int} (h : (Lit.int .u16 n).wf = true) : 0 ≤ n ∧ n ≤ 65535 := by
  unfold Lit.wf at h
  rw [Bool.and_eq_true, decide_eq_true_eq, decide_eq_true_eq] at h
  exact h
theorem wf_u8 {n : Int} (h : (Lit.int .u8 n).wf = true) : 0 ≤ n ∧ n ≤ 255 := by
  unfold Lit.wf at h
  rw [Bool.and_eq_true, decide_eq_true_eq, decide_eq_true_eq] at h
  exact h
theorem open_u16 (hv : Value.okWide Tryd.prog W r base 35 v) (h : DataW.Trod enc Tryd.prog W 0 (fun _ => true) true 35 v d p) : ∃ n, v = .int .u16 n ∧ 0 ≤ n ∧ n ≤ 65535 := by
  obtain ⟨n, rfl⟩ := okWide_int Tryd.underlying35 hv
  obtain ⟨m, hm⟩ := h
  obtain ⟨k, e, _, hw⟩ := DataW.trod_int Tryd.underlying35 hm
  have e : [Value.int .u16 n] = [.int .u16 k] := e
  cases e
  exact ⟨n, rfl, wf_u16 hw⟩
theorem open_u8 (hv : Value.okWide Tryd.prog W r base 5 v) (h : DataW.Trod enc Tryd.prog W 0 (fun _ => true) true 5 v d p) : ∃ n, v = .int .u8 n ∧ 0 ≤ n ∧ n ≤ 255 := by
  obtain ⟨n, rfl⟩ := okWide_int Tryd.underlying5 hv
  obtain ⟨m, hm⟩ := h
  obtain ⟨k, e, _, hw⟩ := DataW.trod_int Tryd.underlying5 hm
  have e : [Value.int .u8 n] = [.int .u8 k] := e
  cases e
  exact ⟨n, rfl, wf_u8 hw⟩
/-- An array of small integers. -/
theorem open_u16s {T n : Nat} (ht : Tryd.prog.underlying T = some (.array n 35)) (hn : Tryd.prog.cellsOf T = n) (hv : ∃ cs, v = .agg cs ∧ cs.size = Tryd.prog.cellsOf T ∧ Row.okWide Tryd.prog W r base T cs) (h : DataW.Trod enc Tryd.prog W 0 (fun _ => true) true T v d p) :
    ∃ xs : List Int, xs.length = n ∧ v = .agg (xs.map fun x => Value.int .u16 x).toArray ∧ ∀ x, x ∈ xs → 0 ≤ x ∧ x ≤ 65535 := by
  obtain ⟨⟨l⟩, rfl, hsz, _⟩ := hv
  rw [hn] at hsz
  have hsz : l.length = n := hsz
  obtain ⟨m, hm⟩ := h
  have hm : DataW.trod enc Tryd.prog W 0 (fun _ => true) true m T l = some (d, p) := hm
  obtain ⟨xs, m', _, _, _, hlen, hel⟩ := DataW.trod_array ht hm
  have hall : ∀ x, x ∈ l → ∃ k, x = .int .u16 k ∧ 0 ≤ k ∧ k ≤ 65535 := fun x hx => by
    obtain ⟨i, hi, rfl⟩ := List.getElem_of_mem hx
    have h1 := hel i (by omega)
    rw [show Tryd.prog.cellsOf 35 = 1 by kernel_rfl, Nat.mul_one] at h1
    rw [List.getElem?_eq_getElem (show i < xs.length by omega)] at h1
    obtain ⟨k, e1, _, hw⟩ := DataW.trod_int Tryd.underlying35 h1
    have e6 : ((l.drop i).take 1)[0]? = some (.int .u16 k) := by rw [e1]; rfl
    rw [List.getElem?_take_of_lt (by omega), List.getElem?_drop, Nat.add_zero, List.getElem?_eq_getElem hi] at e6
    exact ⟨k, Option.some.inj e6, wf_u16 hw⟩
  refine ⟨l.map intOf, by simpa using hsz, ?_, ?_⟩
  · have e : (l.map intOf).map (fun x => Value.int .u16 x) = l := by
      rw [List.map_map]
      have h2 : l.map ((fun x => Value.int .u16 x) ∘ intOf) = l.map id := List.map_congr_left fun x hx => by
        obtain ⟨k, rfl, _⟩ := hall x hx
        rfl
      rw [h2, List.map_id]
    rw [e]
  · intro x hx
    obtain ⟨y, hy, rfl⟩ := List.mem_map.1 hx
    obtain ⟨k, rfl, hk⟩ := hall y hy
    exact hk
theorem open_u16s3 (hv : Value.okWide Tryd.prog W r base 36 v) (h : DataW.Trod enc Tryd.prog W 0 (fun _ => true) true 36 v d p) : ∃ a b c, v = .agg #[.int .u16 a, .int .u16 b, .int .u16 c] ∧ (0 ≤ a ∧ a ≤ 65535) ∧ (0 ≤ b ∧ b ≤ 65535) ∧ 0 ≤ c ∧ c ≤ 65535 := by
  obtain ⟨xs, hx, rfl, hr⟩ := open_u16s Tryd.underlying36 (by kernel_rfl) (show _ by simpa only [Value.okWide, Tryd.underlying36] using hv) h
  obtain ⟨a, b, c, rfl⟩ := list3 hx
  exact ⟨a, b, c, rfl, hr a (by simp), hr b (by simp), hr c (by simp)⟩
theorem open_u16s2 (hv : Value.okWide Tryd.prog W r base 57 v) (h : DataW.Trod enc Tryd.prog W 0 (fun _ => true) true 57 v d p) : ∃ a b, v = .agg #[.int .u16 a, .int .u16 b] ∧ (0 ≤ a ∧ a ≤ 65535) ∧ 0 ≤ b ∧ b ≤ 65535 := by
  obtain ⟨xs, hx, rfl, hr⟩ := open_u16s Tryd.underlying57 (by kernel_rfl) (show _ by simpa only [Value.okWide, Tryd.underlying57] using hv) h
  obtain ⟨a, b, rfl⟩ := list2 hx
  exact ⟨a, b, rfl, hr a (by simp), hr b (by simp)⟩
end
end Go.Proofs.YtfmigicmfolbjaaDoor
