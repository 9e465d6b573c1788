/-
  The law 'CommandRules'.
-/
import Derived.Test.YthmladcepkdheaaRules
import Derived.Test.YthmladcepkdheaaFrame
namespace Go.Proofs.Ythmladcepkdheaa
open Go.ChangeShapes Go.WideShapes Go.ChangeAt Go.RowKit

theorem and3 (r : Bool) (n l m : Int) : (r = false ∧ (r && inB n l m) = false) ∨ (r = true ∧ ¬ l ≤ n ∧ (r && inB n l m) = false) ∨ (r = true ∧ l ≤ n ∧ ¬ n ≤ m ∧ (r && inB n l m) = false) ∨ (r = true ∧ l ≤ n ∧ n ≤ m ∧ (r && inB n l m) = true) := by
  cases r
  · exact .inl ⟨rfl, rfl⟩
  · by_cases h1 : l ≤ n
    · by_cases h2 : n ≤ m
      · exact .inr (.inr (.inr ⟨rfl, h1, h2, by simp [inB, h1, h2]⟩))
      · exact .inr (.inr (.inl ⟨rfl, h1, h2, by simp [inB]; omega⟩))
    · exact .inr (.inl ⟨rfl, h1, by simp [inB]; omega⟩)

theorem newNode_any' (number term : Int) (w : World) :
    Calls Try.prog 14 #[.int .i64 number, .int .i64 term] w fun e w' => (if ((inB term 1 100000 && inB 0 0 1000) && inB number 1 8) = true then e = .returned (.tuple #[.pointer (some ⟨w.heap.size, 0, none⟩), .int .i64 0]) else e = .returned (.tuple #[.pointer none, .int .i64 4])) ∧ Frm w.heap.size [] w w' := by
  have h : ((inB term 1 100000 && inB 0 0 1000) && inB number 1 8) = (inB number 1 8 && inB term 1 100000) := by
    rw [show inB 0 0 1000 = true from rfl, Bool.and_true, Bool.and_comm]
  rw [h]
  exact newNode_any number term w

set_option maxRecDepth 100000 in
set_option maxHeartbeats 8000000 in
theorem rules_walk (nodes term slow number : Int) (w : World) :
    Calls Try.prog 3 #[.agg #[.int .i64 nodes, .int .i64 term, .int .i64 slow], .int .i64 number] w fun e w' => e = .returned (.bool true) ∧ Frm w.heap.size [] w w' := by
  obtain ⟨r1, r2, hw, hw'⟩ : ∃ r1 r2, (∀ w, Calls Try.prog 11 #[.int .i64 term, .int .i64 slow] w fun e w' => e = .returned (.tuple #[.int .i64 r1, .int .i64 r2]) ∧ w = w') ∧
      (∀ w, Calls Try.prog 12 #[.int .i64 term, .int .i64 slow] w fun e w' => e = .returned (.tuple #[.int .i64 r1, .int .i64 r2]) ∧ w = w') := ⟨_, _, wait_any term slow, refWait_any term slow⟩
  have hc := and3 (inB term 1 100000 && inB slow 0 1000) nodes 1 8
  have hn := and3 (inB term 1 100000 && inB 0 0 1000) number 1 8
  rcases hc with ⟨hr, hc⟩ | ⟨hr, c1, hc⟩ | ⟨hr, c1, c2, hc⟩ | ⟨hr, c1, c2, hc⟩ <;>
  rcases hn with ⟨ht, hn⟩ | ⟨ht, n1, hn⟩ | ⟨ht, n1, n2, hn⟩ | ⟨ht, n1, n2, hn⟩
  all_goals
    have HR := Lib.hid hr
    have HC := Lib.hid hc
    have HT := Lib.hid ht
    have HN := Lib.hid hn
    clear hn ht hc hr
    go_enter Try.func3, Try.ntmps3
    go_wp2_with fail
    refine (hw _).mono ?_; rintro e w' ⟨rfl, rfl⟩
    go_wp2_with fail
    refine (hw' _).mono ?_; rintro e w' ⟨rfl, rfl⟩
    go_wp2_with fail
    refine (newCentre_any _ _ _ _).mono ?_; rintro e w1 ⟨he, hf1⟩
    first | rw [if_pos HC.out] at he | rw [if_neg (by rw [HC.out]; simp)] at he
    subst he
    have hb1 := hf1.blk (Blk.new w 23 [.int .i64 nodes, .int .i64 term, .int .i64 slow]) (by simp) (by simp)
    have x0 := hb1.cell 0
    have x1 := hb1.cell 1
    have x2 := hb1.cell 2
    simp only [List.getElem?_cons_succ, List.getElem?_cons_zero] at x0 x1 x2
    have f1 := Frm.call ((Frm.refl w.heap.size [] w).alloc (Nat.le_refl _) _) hf1 (by simp) (by simp)
    have HB1 := Lib.hid hb1
    have F1 := Lib.hid f1
    clear f1 hb1
    clear hf1
    go_wp2_with fail
    clear x0 x1 x2
    refine (newNode_any' _ _ _).mono ?_; rintro e w2 ⟨he, hf2⟩
    first | rw [if_pos HN.out] at he | rw [if_neg (by rw [HN.out]; simp)] at he
    subst he
    have hb2 := hf2.blk HB1.out HB1.out.lt (by simp)
    have x0 := hb2.cell 0
    have x1 := hb2.cell 1
    have x2 := hb2.cell 2
    simp only [List.getElem?_cons_succ, List.getElem?_cons_zero] at x0 x1 x2
    have f2 := F1.out.call hf2 F1.out.size (by simp)
    have F2 := Lib.hid f2
    clear f2
    clear hf2 HB1 F1 hb2
    go_wp2_with fail
    refine (refRules_any _ _ _).mono ?_; rintro e w' ⟨rfl, rfl⟩
    rw [HR.out]
    go_wp2_with fail
    refine (refRules_any _ _ _).mono ?_; rintro e w' ⟨rfl, rfl⟩
    rw [HT.out]
    go_wp2_with fail
    clear x0 x1 x2
    refine (awake_any _).mono ?_; rintro e w3 ⟨rfl, hf3⟩
    have f3 := F2.out.call hf3 F2.out.size (by simp)
    have F3 := Lib.hid f3
    clear f3
    clear hf3 F2
    go_wp2_with fail
    go_ret
    first
      | exact ⟨rfl, F3.out⟩
      | exact ⟨by simp; omega, F3.out⟩

set_option maxRecDepth 100000 in
theorem commandRules_lifted (os : Os) (started : os.Started) (H : Type) (enc : TypeId × Value → H) :
    ReturnsInHanded {} Try.checked os 3 .any (Rows.commandRulesSpec.pre6 enc Try.prog Try.f3 Rows.commandRulesRow.domain false) (Rows.commandRulesSpec.post enc Try.prog Try.f3 false true false false) := by
  refine law_lift (fn := Try.f3) (s := Rows.commandRulesSpec) (conds := Rows.commandRulesRow.domain) started 2 (by kernel_rfl) Try.func3
      (ChangeSpec.witness6 (enc := enc) (C := Try.checked) false ⟨#[], #[.agg #[.int .i64 0, .int .i64 0, .int .i64 0], .int .i64 0], []⟩ 8 (by kernel_rfl) (by kernel_rfl) (by kernel_rfl) (by kernel_rfl))
      (by rw [Try.params3]; decide +kernel) (by rw [Try.params3]; rfl) (by kernel_rfl) rfl (fun ds h => by match ds, h with | [d1, d2], _ => rfl) ?_
  intro W base args ds ps hval hA
  rw [Try.params3] at hA hval
  obtain ⟨v0, vs0, d0, ds0, p0, q0, hargs, rfl, rfl, h0, r0⟩ := trodAll_cons hA
  obtain ⟨v1, vs1, d1, ds1, p1, q1, rfl, rfl, rfl, h1, r1⟩ := trodAll_cons r0
  obtain ⟨rfl, rfl, rfl⟩ := trodAll_nil r1
  obtain rfl : args = #[v0, v1] := by cases args; simp_all
  obtain ⟨c0, c1, c2, y0, y1, y2, n, rfl, _, _, k0, k1, k2⟩ := Joins.open_agg3 Try.underlying23 (by kernel_rfl) (by kernel_rfl) (hval 0 23 v0 rfl rfl) h0
  obtain ⟨a0, e0, _, _⟩ := DataW.trod_int Try.underlying3 k0
  obtain ⟨a1, e1, _, _⟩ := DataW.trod_int Try.underlying3 k1
  obtain ⟨a2, e2, _, _⟩ := DataW.trod_int Try.underlying3 k2
  obtain ⟨rfl, _⟩ := List.cons.inj e0
  obtain ⟨rfl, _⟩ := List.cons.inj e1
  obtain ⟨rfl, _⟩ := List.cons.inj e2
  obtain ⟨a3, rfl, _⟩ := open_int Try.underlying3 (hval 1 3 v1 rfl rfl) h1
  exact rules_walk a0 a1 a2 a3 W

theorem commandRules_over : Rows.commandRulesRow.holds Try.pinned (OpenSpec.ofChange Rows.commandRulesSpec) :=
  OpenClaim.holds_of_wide 3 Try.f3 rfl rfl rfl rfl rfl rfl rfl ⟨rfl, rfl, rfl, rfl, rfl⟩ rfl rfl rfl rfl rfl (by kernel_rfl) Try.func3 (by kernel_rfl)
    (of_decide_eq_true (by kernel_rfl)) (by unfold Func.isWrapper; first | (rw [if_pos (by decide +kernel)]; kernel_rfl) | (rw [if_neg (by decide +kernel)]; exact ⟨rfl, rfl⟩))
    (fun os started H enc _ => commandRules_lifted os started H enc)

/-- The statement. -/
theorem commandRules_proved : Rows.CommandRulesSaid := commandRules_over
end Go.Proofs.Ythmladcepkdheaa
