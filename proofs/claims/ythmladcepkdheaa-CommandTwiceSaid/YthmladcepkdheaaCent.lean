/-
  The centre of the command layer, function by function.
-/
import Derived.Test.YthmladcepkdheaaNode
namespace Go.Proofs.Ythmladcepkdheaa
open Go.RowKit

def centCells (now node number since wait wanted : Int) (gr : Value) (bM : Nat) : List Value :=
  [.int .i64 now, .int .i64 node, .int .i64 number, .int .i64 since, .bool true, .int .i64 wait, .int .i64 wanted, gr, .map (some bM)]

theorem cent_cells {w : World} {b bM : Nat} {now node number since wait wanted : Int} {gr : Value} (h : Blk w b 90 (centCells now node number since wait wanted gr bM)) :
    (w.cell? ⟨b, 0, none⟩ = some (.int .i64 now) ∧ w.cell? ⟨b, 1, none⟩ = some (.int .i64 node) ∧ w.cell? ⟨b, 2, none⟩ = some (.int .i64 number) ∧ w.cell? ⟨b, 3, none⟩ = some (.int .i64 since) ∧
    w.cell? ⟨b, 4, none⟩ = some (.bool true) ∧ w.cell? ⟨b, 5, none⟩ = some (.int .i64 wait) ∧ w.cell? ⟨b, 6, none⟩ = some (.int .i64 wanted) ∧ w.cell? ⟨b, 7, none⟩ = some gr ∧ w.cell? ⟨b, 8, none⟩ = some (.map (some bM))) ∧
    (w.frozen? ⟨b, 0, none⟩ = false ∧ w.frozen? ⟨b, 1, none⟩ = false ∧ w.frozen? ⟨b, 2, none⟩ = false ∧ w.frozen? ⟨b, 3, none⟩ = false ∧ w.frozen? ⟨b, 6, none⟩ = false) :=
  ⟨⟨h.cell 0, h.cell 1, h.cell 2, h.cell 3, h.cell 4, h.cell 5, h.cell 6, h.cell 7, h.cell 8⟩, h.free 0, h.free 1, h.free 2, h.free 3, h.free 6⟩

/-- The centre's block behind a tick. -/
def tickCells (now node number since wait wanted : Int) (gr : Value) (bM : Nat) : List Value :=
  if node ≠ 0 ∧ since + wait ≤ now + 1 then centCells (now + 1) 0 0 0 wait wanted gr bM else centCells (now + 1) node number since wait wanted gr bM

section
variable {now node number since wait wanted : Int} {gr : Value} {bM : Nat}

set_option maxHeartbeats 400000 in
theorem centIs (b : Nat) (w : World) (h : Blk w b 90 (centCells now node number since wait wanted gr bM)) :
    Calls Try.prog 55 #[.pointer (some ⟨b, 0, none⟩)] w fun e w' => e = .returned (.bool true) ∧ w = w' := by
  obtain ⟨⟨c0, c1, c2, c3, c4, c5, c6, c7, c8⟩, f0, f1, f2, f3, f6⟩ := cent_cells h
  clear h c0 c1 c2 c3 c5 c6 c7 c8
  go_enter Try.func55, Try.ntmps55
  go_wp2
  go_ret
  exact ⟨rfl, rfl⟩

set_option maxHeartbeats 400000 in
theorem centHolds (b : Nat) (w : World) (h : Blk w b 90 (centCells now node number since wait wanted gr bM)) :
    Calls Try.prog 39 #[.pointer (some ⟨b, 0, none⟩)] w fun e w' => e = .returned (.bool (node == 0)) ∧ w = w' := by
  obtain ⟨⟨c0, c1, c2, c3, c4, c5, c6, c7, c8⟩, f0, f1, f2, f3, f6⟩ := cent_cells h
  have H := Lib.hid h
  clear h
  clear c0 c2 c3 c4 c5 c6 c7 c8
  go_enter Try.func39, Try.ntmps39
  go_wp2_with (go_at_call 55; refine (centIs _ _ H.out).mono ?_; rintro e w' ⟨rfl, rfl⟩)
  go_ret
  exact ⟨rfl, rfl⟩

set_option maxHeartbeats 400000 in
theorem centLease (b : Nat) (w : World) (h : Blk w b 90 (centCells now node number since wait wanted gr bM)) :
    Calls Try.prog 37 #[.pointer (some ⟨b, 0, none⟩)] w fun e w' => e = .returned (.tuple #[.int .i64 node, .int .i64 since]) ∧ ∃ n, w' = w.drewN n := by
  obtain ⟨⟨c0, c1, c2, c3, c4, c5, c6, c7, c8⟩, f0, f1, f2, f3, f6⟩ := cent_cells h
  have H := Lib.hid h
  clear h
  clear c0 c2 c4 c5 c6 c7 c8
  go_enter Try.func37, Try.ntmps37
  go_wp2_with (go_at_call 55; refine (centIs _ _ H.out).mono ?_; rintro e w' ⟨rfl, rfl⟩)
  go_quiet (fail)
  go_wp2
  go_ret2
  exact ⟨rfl, _, rfl⟩

set_option maxHeartbeats 400000 in
theorem centBreak (b : Nat) (w : World) (h : Blk w b 90 (centCells now node number since wait wanted gr bM)) :
    Calls Try.prog 33 #[.pointer (some ⟨b, 0, none⟩)] w fun e w' => e = .returned (.int .i64 0) ∧ Blk w' b 90 (centCells now (-1) 0 now wait wanted gr bM) ∧ Frm w.heap.size [b] w w' := by
  obtain ⟨⟨c0, c1, c2, c3, c4, c5, c6, c7, c8⟩, f0, f1, f2, f3, f6⟩ := cent_cells h
  have H := Lib.hid h
  clear h
  clear c4 c5 c6 c7 c8
  go_enter Try.func33, Try.ntmps33
  go_wp2_with (go_at_call 55; refine (centIs _ _ H.out).mono ?_; rintro e w' ⟨rfl, rfl⟩)
  go_ret
  refine ⟨rfl, ((H.out.set 1 _).set 2 _).set 3 _, ?_⟩
  repeat (first | with_reducible exact Frm.refl _ _ _ | with_reducible refine Frm.drewN ?_ | with_reducible refine Frm.drew ?_ | ((with_reducible refine Frm.setCell' ?_ ?_); · first | (left; simp; done) | (right; simp; done) | (right; simp; omega)) | ((with_reducible refine Frm.alloc' ?_ ?_); · first | exact Nat.le_refl _ | (simp; done) | (simp; omega)))

set_option maxHeartbeats 1000000 in
theorem centTick (b : Nat) (w : World) (h : Blk w b 90 (centCells now node number since wait wanted gr bM)) (hn0 : 0 ≤ now) (hn1 : now ≤ 1000000000) (hs0 : 0 ≤ since) (hs1 : since ≤ 1000000000) (hw0 : 0 ≤ wait) (hw1 : wait ≤ 1000000000) :
    Calls Try.prog 35 #[.pointer (some ⟨b, 0, none⟩)] w fun e w' => e = .returned (.int .i64 0) ∧
      Blk w' b 90 (tickCells now node number since wait wanted gr bM) ∧ Frm w.heap.size [b] w w' := by
  have h1 : Blk (w.setCell ⟨b, 0, none⟩ (.int .i64 (wrap64 (now + 1)))) b 90 (centCells (now + 1) node number since wait wanted gr bM) := by
    rw [IntWalk.wrap64_in (now + 1) ⟨by omega, by omega⟩]; exact h.set 0 _
  have hf : Frm w.heap.size [b] w (w.setCell ⟨b, 0, none⟩ (.int .i64 (wrap64 (now + 1)))) := by
    repeat (first | with_reducible exact Frm.refl _ _ _ | with_reducible refine Frm.drewN ?_ | with_reducible refine Frm.drew ?_ | ((with_reducible refine Frm.setCell' ?_ ?_); · first | (left; simp; done) | (right; simp; done) | (right; simp; omega)) | ((with_reducible refine Frm.alloc' ?_ ?_); · first | exact Nat.le_refl _ | (simp; done) | (simp; omega)))
  have hsum : IntKind.i64.wrap (since + wait) = since + wait := IntWalk.i64_in _ (by omega)
  have c0 := h.cell 0
  have f0 := h.free 0
  simp only [centCells, List.getElem?_cons_zero] at c0
  have H := Lib.hid h
  have C0 := Lib.hid c0
  have F0 := Lib.hid f0
  have H1 := Lib.hid h1
  have HF := Lib.hid hf
  clear hf h1 f0 c0 h
  go_enter Try.func35, Try.ntmps35
  go_wp2_with fail
  refine (centIs _ _ H.out).mono ?_; rintro e w' ⟨rfl, rfl⟩
  go_wp2_with fail
  refine (tick_any _ _ now C0.out F0.out).mono ?_; rintro e w1 ⟨rfl, hw⟩
  obtain ⟨w2, hw2⟩ : ∃ w2, w2 = w1 := ⟨_, rfl⟩
  rw [← hw2] at hw ⊢
  have H2 := Lib.hid (hw ▸ H1.out)
  have HF2 := Lib.hid (hw ▸ HF.out)
  clear hw hw2 H1 HF
  obtain ⟨⟨c0, c1, c2, c3, c4, c5, c6, c7, c8⟩, f0, f1, f2, f3, f6⟩ := cent_cells H2.out
  clear c4 c6 c7 c8
  by_cases t1 : node = 0
  · have T1 := Lib.hid t1
    have t2 : (node != 0) = false := by simp [t1]
    clear t1
    go_wp2_with fail
    go_quiet (fail)
    go_wp2
    go_ret
    refine ⟨rfl, ?_, HF2.out.drewN⟩
    rw [tickCells, if_neg (by have := T1.out; omega)]
    exact H2.out.drewN
  · have t2 : (node != 0) = true := by simp [t1]
    have T1 := Lib.hid t1
    clear t1
    by_cases t3 : since + wait ≤ now + 1
    · go_wp2_with fail
      go_quiet (fail)
      go_wp2
      go_ret
      refine ⟨rfl, ?_, ?_⟩
      · rw [tickCells, if_pos ⟨T1.out, t3⟩]
        exact ((Blk.set H2.out.drewN 1 _).set 2 _).set 3 _
      · refine Frm.call HF2.out ?_ HF2.out.size (fun _ _ h => h)
        repeat (first | with_reducible exact Frm.refl _ _ _ | with_reducible refine Frm.drewN ?_ | with_reducible refine Frm.drew ?_ | ((with_reducible refine Frm.setCell' ?_ ?_); · first | (left; simp; done) | (right; simp; done) | (right; simp; omega)) | ((with_reducible refine Frm.alloc' ?_ ?_); · first | exact Nat.le_refl _ | (simp; done) | (simp; omega)))
    · go_wp2_with fail
      go_quiet (fail)
      go_wp2
      go_ret
      refine ⟨rfl, ?_, HF2.out.drewN⟩
      rw [tickCells, if_neg (by omega)]
      exact H2.out.drewN
end
end Go.Proofs.Ythmladcepkdheaa
