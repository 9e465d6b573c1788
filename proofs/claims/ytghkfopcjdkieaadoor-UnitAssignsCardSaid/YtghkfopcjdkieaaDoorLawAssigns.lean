/-
  Which unit goes where is the document's: the row.
-/
import Derived.Test.YtghkfopcjdkieaaDoorS11
namespace Go.Proofs.YtghkfopcjdkieaaDoor
open Go.ChangeShapes Go.WideShapes Go.ChangeAt Go.RowKit

set_option maxRecDepth 100000 in
theorem unitAssigns_lifted (os : Os) (started : os.Started) (H : Type) (enc : TypeId × Value → H) :
    ReturnsInHanded {} Tryd.checked os 12 .any (fun w args => (Rows.unitAssignsSpec.pre enc Tryd.prog Tryd.f12 [] false w args ∧ laidMetH Tryd.prog laidR w) ∧ sizedMet enc Tryd.prog Tryd.f12 (OpenSpec.ofChange Rows.unitAssignsSpec) false w args) (Rows.unitAssignsSpec.post enc Tryd.prog Tryd.f12 false true false false) := by
  refine law_liftL (fn := Tryd.f12) (s := Rows.unitAssignsSpec) started 1 (by kernel_rfl) Tryd.func12
      (ChangeSpec.witness_shaped (enc := enc) (C := Tryd.checked) (os := os) (X := fun w _ => laidMetH Tryd.prog laidR w) false (World.doorLaid Tryd.prog 400 os)
        #[.agg #[.slice none 0 0, .slice none 0 0, .slice none 0 0]] 8 rfl
        (World.shaped_of_RefB (by kernel_rfl) (by kernel_rfl)) (by kernel_rfl) (by kernel_rfl) (by kernel_rfl) (door_met os _))
      (by rw [Tryd.params12]; decide +kernel) (by rw [Tryd.params12]; rfl) (by kernel_rfl) rfl (fun ds h => by match ds, h with | [d1], _ => rfl) ?_
  intro W base args ds ps hval hA hgl
  rw [Tryd.params12] at hA hval
  obtain ⟨v0, vs0, d0, ds0, p0, q0, hargs, rfl, rfl, h0, r0⟩ := trodAll_cons hA
  obtain ⟨rfl, rfl, rfl⟩ := trodAll_nil r0
  obtain rfl : args = #[v0] := by cases args; simp_all
  obtain ⟨ua, ub, uo, N, ucap, U, Sn, sa, sb, so, M, scap, T, ga, gb, go_, G, gcap, Q, rfl, hnm, tw⟩ := open_team (hval 0 77 v0 rfl rfl) h0
  exact assigns_walk ua ub uo N ucap U Sn hnm sa sb so M scap T ga gb go_ G gcap Q W tw hgl

theorem unitAssigns_over : Rows.UnitAssignsSaid :=
  OpenClaim.holds_of_wide 12 Tryd.f12 rfl rfl rfl rfl rfl rfl rfl ⟨rfl, rfl, rfl, rfl, rfl⟩ rfl rfl rfl rfl rfl (by kernel_rfl) Tryd.func12 (by kernel_rfl)
    (of_decide_eq_true (by kernel_rfl)) (by unfold Func.isWrapper; first | (rw [if_pos (by decide +kernel)]; kernel_rfl) | (rw [if_neg (by decide +kernel)]; exact ⟨rfl, rfl⟩))
    (fun os started H enc _ => unitAssigns_lifted os started H enc)
end Go.Proofs.YtghkfopcjdkieaaDoor
