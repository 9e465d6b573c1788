/-
  The nodes of the command layer, function by function: what each call returns, and how it turns the node's block.
-/
import Derived.Test.YthmladcepkdheaaTake
namespace Go.Proofs.Ythmladcepkdheaa
open Go.RowKit

/-- Is a number from one to another one? (A name that the walk does not open.) -/
def inB (n l m : Int) : Bool := decide (l ≤ n) && decide (n ≤ m)
theorem inB_iff {n l m : Int} : inB n l m = true ↔ l ≤ n ∧ n ≤ m := by simp [inB]
theorem inB_false {n l m : Int} : inB n l m = false ↔ ¬ (l ≤ n ∧ n ≤ m) := by rw [← inB_iff]; simp

set_option maxHeartbeats 400000 in
theorem within_any (a b c : Int) (w : World) :
    Calls Try.prog 44 #[.int .i64 a, .int .i64 b, .int .i64 c] w fun e w' => e = .returned (.bool (inB a b c)) ∧ w = w' := by
  by_cases h1 : b ≤ a
  · by_cases h2 : a ≤ c
    · go_enter Try.func44, Try.ntmps44
      go_wp2
      go_ret
      exact ⟨by simp [inB, h1, h2], rfl⟩
    · go_enter Try.func44, Try.ntmps44
      go_wp2
      go_ret
      exact ⟨by simp [inB, h2], rfl⟩
  · go_enter Try.func44, Try.ntmps44
    go_wp2
    go_ret
    have h1' : ¬ b ≤ a := by omega
    exact ⟨by simp [inB, h1'], rfl⟩

/-- A word is valid. -/
def wordB (k n m : Int) : Bool := inB k 1 3 && inB n 1 8 && inB m 1 1099511627776

set_option maxHeartbeats 400000 in
theorem valid_any (k n m : Int) (w : World) :
    Calls Try.prog 50 #[.agg #[.int .i64 k, .int .i64 n, .int .i64 m]] w fun e w' => e = .returned (.bool (wordB k n m)) ∧ w.alloc (.cells #[.int .i64 k, .int .i64 n, .int .i64 m] 41) = w' := by
  have HW : wordB k n m = (inB k 1 3 && inB n 1 8 && inB m 1 1099511627776) := rfl
  generalize wordB k n m = r at HW
  cases h1 : inB k 1 3 <;> cases h2 : inB n 1 8 <;> cases h3 : inB m 1 1099511627776 <;> simp only [h1, h2, h3, Bool.and_true, Bool.and_false, Bool.true_and, Bool.false_and] at HW <;> subst HW
  all_goals
    have H1 := Lib.hid h1
    have H2 := Lib.hid h2
    have H3 := Lib.hid h3
    clear h1 h2 h3
    go_enter Try.func50, Try.ntmps50
    go_wp2_with (go_at_call 44; refine (within_any _ _ _ _).mono ?_; rintro e w' ⟨rfl, rfl⟩; first | rw [H1.out] | rw [H2.out] | rw [H3.out])
    go_ret
    exact ⟨rfl, rfl⟩

theorem node_cells {w : World} {b : Nat} {now number term end_ last : Int} {asks : Value} (h : Blk w b 96 (nodeCells now number term end_ last asks)) :
    w.cell? ⟨b, 0, none⟩ = some (.int .i64 now) ∧ w.cell? ⟨b, 1, none⟩ = some (.bool true) ∧ w.cell? ⟨b, 2, none⟩ = some (.int .i64 number) ∧
    w.cell? ⟨b, 3, none⟩ = some (.int .i64 term) ∧ w.cell? ⟨b, 4, none⟩ = some (.int .i64 end_) ∧ w.cell? ⟨b, 5, none⟩ = some (.int .i64 last) ∧
    w.cell? ⟨b, 6, none⟩ = some asks ∧ w.frozen? ⟨b, 0, none⟩ = false ∧ w.frozen? ⟨b, 4, none⟩ = false ∧ w.frozen? ⟨b, 5, none⟩ = false ∧ w.frozen? ⟨b, 6, none⟩ = false :=
  ⟨h.cell 0, h.cell 1, h.cell 2, h.cell 3, h.cell 4, h.cell 5, h.cell 6, h.free 0, h.free 4, h.free 5, h.free 6⟩

theorem info110 : (Try.prog.info? 110).map (fun i => (i.zero, i.size, i.bytes)) = some (some (.agg #[.int .i64 0, .int .i64 0]), 2, 16) := by kernel_rfl

section
variable {now number term end_ last : Int} {asks : Value}

set_option maxHeartbeats 400000 in
theorem nodeIs (b : Nat) (w : World) (h : Blk w b 96 (nodeCells now number term end_ last asks)) :
    Calls Try.prog 48 #[.pointer (some ⟨b, 0, none⟩)] w fun e w' => e = .returned (.bool true) ∧ w = w' := by
  obtain ⟨h0, h1, h2, h3, h4, h5, h6, f0, f4, f5, f6⟩ := node_cells h
  clear h
  go_enter Try.func48, Try.ntmps48
  go_wp2
  go_ret
  exact ⟨rfl, rfl⟩

set_option maxHeartbeats 400000 in
theorem tick_any (b : Nat) (w : World) (now : Int) (h0 : w.cell? ⟨b, 0, none⟩ = some (.int .i64 now)) (f0 : w.frozen? ⟨b, 0, none⟩ = false) :
    Calls Try.prog 54 #[.pointer (some ⟨b, 0, none⟩)] w fun e w' => e = .returned (.tuple #[]) ∧ w.setCell ⟨b, 0, none⟩ (.int .i64 (wrap64 (now + 1))) = w' := by
  go_enter Try.func54, Try.ntmps54
  go_wp2
  go_end0
  exact ⟨rfl, rfl⟩

set_option maxHeartbeats 400000 in
theorem nodeTick (b : Nat) (w : World) (h : Blk w b 96 (nodeCells now number term end_ last asks)) :
    Calls Try.prog 25 #[.pointer (some ⟨b, 0, none⟩)] w fun e w' => e = .returned (.int .i64 0) ∧ Blk w' b 96 (nodeCells (wrap64 (now + 1)) number term end_ last asks) ∧ Frm w.heap.size [b] w w' := by
  obtain ⟨h0, h1, h2, h3, h4, h5, h6, f0, f4, f5, f6⟩ := node_cells h
  have H := Lib.hid h
  have H0 := Lib.hid h0
  have F0 := Lib.hid f0
  clear f0 h0 h
  clear h1 h2 h3 h4 h5 h6 f4 f5 f6
  go_enter Try.func25, Try.ntmps25
  go_wp2_with fail
  refine (nodeIs _ _ H.out).mono ?_; rintro e w' ⟨rfl, rfl⟩
  go_wp2_with fail
  refine (tick_any _ _ now H0.out F0.out).mono ?_; rintro e w' ⟨rfl, rfl⟩
  go_wp2
  go_ret
  exact ⟨rfl, H.out.set 0 _, (Frm.refl _ _ w).setCell (.inl (by simp)) _⟩

set_option maxHeartbeats 400000 in
theorem nodeEnds (b : Nat) (w : World) (h : Blk w b 96 (nodeCells now number term end_ last asks)) :
    Calls Try.prog 26 #[.pointer (some ⟨b, 0, none⟩)] w fun e w' => e = .returned (.tuple #[.int .i64 now, .int .i64 end_]) ∧ ∃ n, w' = w.drewN n := by
  obtain ⟨h0, h1, h2, h3, h4, h5, h6, f0, f4, f5, f6⟩ := node_cells h
  have H := Lib.hid h
  clear h
  go_enter Try.func26, Try.ntmps26
  go_wp2_with (go_at_call 48; refine (nodeIs _ _ H.out).mono ?_; rintro e w' ⟨rfl, rfl⟩)
  go_quiet (fail)
  go_wp2
  go_ret2
  exact ⟨rfl, _, rfl⟩

set_option maxHeartbeats 400000 in
theorem nodeHolds (b : Nat) (w : World) (h : Blk w b 96 (nodeCells now number term end_ last asks)) :
    Calls Try.prog 27 #[.pointer (some ⟨b, 0, none⟩)] w fun e w' => e = .returned (.bool (decide (now < end_))) ∧ ∃ n, w' = w.drewN n := by
  obtain ⟨h0, h1, h2, h3, h4, h5, h6, f0, f4, f5, f6⟩ := node_cells h
  have H := Lib.hid h
  clear h
  go_enter Try.func27, Try.ntmps27
  go_wp2_with fail
  go_quiet ((go_at_call 48; exact Calls.quiet_of_same ((nodeIs _ _ H.out.drewN).mono fun e w' ⟨h, k⟩ => ⟨h, k.symm⟩)))
  go_wp2
  go_ret
  exact ⟨rfl, _, rfl⟩

set_option maxHeartbeats 400000 in
theorem fall_any (b : Nat) (w : World) (h : Blk w b 96 (nodeCells now number term end_ last asks)) :
    Calls Try.prog 53 #[.pointer (some ⟨b, 0, none⟩)] w fun e w' => e = .returned (.tuple #[]) ∧ Blk w' b 96 (nodeCells now number term now last (.slice none 0 0)) ∧ Frm w.heap.size [b] w w' := by
  obtain ⟨h0, h1, h2, h3, h4, h5, h6, f0, f4, f5, f6⟩ := node_cells h
  have H := Lib.hid h
  clear h
  clear h1 h2 h3 h5
  go_enter Try.func53, Try.ntmps53
  go_wp2
  go_end0
  exact ⟨rfl, (H.out.set 4 _).set 6 _, ((Frm.refl _ _ w).setCell (p := ⟨b, 4, none⟩) (.inl (by simp)) _).setCell (.inl (by simp)) _⟩

set_option maxHeartbeats 400000 in
theorem nodeBreak (b : Nat) (w : World) (h : Blk w b 96 (nodeCells now number term end_ last asks)) :
    Calls Try.prog 21 #[.pointer (some ⟨b, 0, none⟩)] w fun e w' => e = .returned (.int .i64 0) ∧ Blk w' b 96 (nodeCells now number term now last (.slice none 0 0)) ∧ Frm w.heap.size [b] w w' := by
  have H := Lib.hid h
  clear h
  go_enter Try.func21, Try.ntmps21
  go_wp2_with fail
  refine (nodeIs _ _ H.out).mono ?_; rintro e w' ⟨rfl, rfl⟩
  go_wp2_with fail
  refine (fall_any _ _ H.out).mono ?_; rintro e w1 ⟨rfl, h1, hf⟩
  have H1 := Lib.hid h1
  have HF := Lib.hid hf
  clear hf h1
  go_wp2
  go_ret
  exact ⟨rfl, H1.out, HF.out⟩
end

set_option maxHeartbeats 400000 in
/-- 'NewNode'. -/
theorem newNode_ok (number term : Int) (w : World) (h1 : inB number 1 8 = true) (h2 : inB term 1 100000 = true) :
    Calls Try.prog 14 #[.int .i64 number, .int .i64 term] w fun e w' => e = .returned (.tuple #[.pointer (some ⟨w.heap.size, 0, none⟩), .int .i64 0]) ∧ Blk w' w.heap.size 96 (nodeCells 0 number term 0 0 (.slice none 0 0)) ∧ Frm w.heap.size [] w w' := by
  have H1 := Lib.hid h1
  have H2 := Lib.hid h2
  clear h2 h1
  go_enter Try.func14, Try.ntmps14
  go_wp2_with (go_at_call 44; refine (within_any _ _ _ _).mono ?_; rintro e w' ⟨rfl, rfl⟩; first | rw [H1.out] | rw [H2.out])
  go_ret2
  exact ⟨rfl, Blk.new w 96 _, (Frm.refl _ _ w).alloc (Nat.le_refl _) _⟩

set_option maxHeartbeats 400000 in
theorem newNode_no (number term : Int) (w : World) (h : (inB number 1 8 && inB term 1 100000) = false) :
    Calls Try.prog 14 #[.int .i64 number, .int .i64 term] w fun e w' => e = .returned (.tuple #[.pointer none, .int .i64 4]) ∧ w = w' := by
  cases h1 : inB number 1 8 <;> cases h2 : inB term 1 100000
  case true.true => rw [h1, h2] at h; cases h
  all_goals
    have H1 := Lib.hid h1
    have H2 := Lib.hid h2
    clear h2 h1
    clear h
    go_enter Try.func14, Try.ntmps14
    go_wp2_with (go_at_call 44; refine (within_any _ _ _ _).mono ?_; rintro e w' ⟨rfl, rfl⟩; first | rw [H1.out] | rw [H2.out])
    go_ret2
    exact ⟨rfl, rfl⟩
end Go.Proofs.Ythmladcepkdheaa
