/-
  The centre: what it hears.
-/
import Derived.Test.YthmladcepkdheaaCent
namespace Go.Proofs.Ythmladcepkdheaa
open Go.RowKit

def ints (l : List Int) : List Value := l.map (Value.int .i64)

/-- A CENTRE, WHOLE: its block b, the greatest numbers in block bG, the map of what it hears in block bM. -/
def hearMap (b : Nat) : Obj := .map #[⟨.int .i64 1, .func (.func 45) #[.pointer (some ⟨b, 0, none⟩)] #[], 0⟩, ⟨.int .i64 3, .func (.func 46) #[.pointer (some ⟨b, 0, none⟩)] #[], 1⟩] 2

structure CentAt (w : World) (b bG bM : Nat) (now node number since wait wanted : Int) (g : List Int) : Prop where
  blk : Blk w b 90 (centCells now node number since wait wanted (.slice (some ⟨bG, 0, none⟩) g.length g.length) bM)
  row : Blk w bG 3 (ints g)
  map : w.heap[bM]? = some (hearMap b)
  ne : bG ≠ b
  ne2 : bM ≠ b
  ne3 : bM ≠ bG

theorem ints_length (l : List Int) : (ints l).length = l.length := by simp [ints]
theorem ints_get {l : List Int} {n : Nat} (h : n < l.length) : (ints l)[n]? = some (.int .i64 l[n]) := by simp [ints, h]
theorem ints_set (l : List Int) (n : Nat) (x : Int) : (ints l).set n (.int .i64 x) = ints (l.set n x) := by simp [ints, List.map_set]

section
variable {now node number since wait wanted : Int} {g : List Int} {bG bM : Nat}

theorem CentAt.lt {w : World} {b : Nat} (h : CentAt w b bG bM now node number since wait wanted g) : ∀ x ∈ [b, bG, bM], x < w.heap.size := by
  intro x hx
  simp at hx
  rcases hx with rfl | rfl | rfl
  · exact h.blk.lt
  · exact h.row.lt
  · exact (Array.getElem?_eq_some_iff.1 h.map).1
theorem CentAt.frm {w w' : World} {b B : Nat} {S : List Nat} (h : CentAt w b bG bM now node number since wait wanted g) (hf : Frm B S w w') (hB : ∀ x ∈ [b, bG, bM], x < B ∧ x ∉ S) :
    CentAt w' b bG bM now node number since wait wanted g := by
  have h1 := hB b (by simp)
  have h2 := hB bG (by simp)
  have h3 := hB bM (by simp)
  exact ⟨hf.blk h.blk h1.1 h1.2, hf.blk h.row h2.1 h2.2, (hf.block bM h3.1 h3.2).trans h.map, h.ne, h.ne2, h.ne3⟩

/-- Only the centre's block and its row have turned. -/
theorem CentAt.turn {w w' : World} {b : Nat} {now' node' number' since' wait' wanted' : Int} {g' : List Int} (h : CentAt w b bG bM now node number since wait wanted g) (hf : Frm w.heap.size [b, bG] w w')
    (h1 : Blk w' b 90 (centCells now' node' number' since' wait' wanted' (.slice (some ⟨bG, 0, none⟩) g'.length g'.length) bM)) (h2 : Blk w' bG 3 (ints g')) : CentAt w' b bG bM now' node' number' since' wait' wanted' g' :=
  ⟨h1, h2, (hf.block bM (h.lt bM (by simp)) (by simpa using ⟨h.ne2, h.ne3⟩)).trans h.map, h.ne, h.ne2, h.ne3⟩

set_option maxHeartbeats 1000000 in
theorem centWant (b : Nat) (w : World) (n : Int) (h : CentAt w b bG bM now node number since wait wanted g) (hg : g.length ≤ 100000) (hi : inB n 0 (g.length - 1) = true) :
    Calls Try.prog 29 #[.pointer (some ⟨b, 0, none⟩), .int .i64 n] w fun e w' => e = .returned (.int .i64 0) ∧ CentAt w' b bG bM now node number since wait n g ∧ Frm w.heap.size [b] w w' := by
  obtain ⟨⟨c0, c1, c2, c3, c4, c5, c6, c7, c8⟩, f0, f1, f2, f3, f6⟩ := cent_cells h.blk
  have H := Lib.hid h
  have HI := Lib.hid hi
  clear hi h
  clear c0 c1 c2 c3 c4 c5 c8
  go_enter Try.func29, Try.ntmps29
  go_wp2_with (first | (go_at_call 55; refine (centIs _ _ H.out.blk).mono ?_; rintro e w' ⟨rfl, rfl⟩) | (go_at_call 44; refine (within_any _ _ _ _).mono ?_; rintro e w' ⟨rfl, rfl⟩; rw [HI.out]))
  go_ret
  refine ⟨rfl, ⟨H.out.blk.set 6 _, H.out.row.other _ (Ne.symm H.out.ne) _, (Below.heap_setCell _ _ _ _ H.out.ne2).trans H.out.map, H.out.ne, H.out.ne2, H.out.ne3⟩, ?_⟩
  repeat (first | with_reducible exact Frm.refl _ _ _ | with_reducible refine Frm.drewN ?_ | with_reducible refine Frm.drew ?_ | ((with_reducible refine Frm.setCell' ?_ ?_); · first | (left; simp; done) | (right; simp; done) | (right; simp; omega)) | ((with_reducible refine Frm.alloc' ?_ ?_); · first | exact Nat.le_refl _ | (simp; done) | (simp; omega)))

set_option maxHeartbeats 1000000 in
theorem centWant_no (b : Nat) (w : World) (n : Int) (h : CentAt w b bG bM now node number since wait wanted g) (hg : g.length ≤ 100000) (hi : inB n 0 (g.length - 1) = false) :
    Calls Try.prog 29 #[.pointer (some ⟨b, 0, none⟩), .int .i64 n] w fun e w' => e = .returned (.int .i64 7) ∧ w = w' := by
  obtain ⟨⟨c0, c1, c2, c3, c4, c5, c6, c7, c8⟩, f0, f1, f2, f3, f6⟩ := cent_cells h.blk
  have H := Lib.hid h
  have HI := Lib.hid hi
  clear hi h
  clear c0 c1 c2 c3 c4 c5 c8
  go_enter Try.func29, Try.ntmps29
  go_wp2_with (first | (go_at_call 55; refine (centIs _ _ H.out.blk).mono ?_; rintro e w' ⟨rfl, rfl⟩) | (go_at_call 44; refine (within_any _ _ _ _).mono ?_; rintro e w' ⟨rfl, rfl⟩; rw [HI.out]))
  go_ret
  exact ⟨rfl, rfl⟩

/-- What the centre answers to an Ask, and what it is then. -/
def Asked (w : World) (b bG bM : Nat) (now node number since wait wanted : Int) (g : List Int) (n : Nat) (m : Int) (e : Ending) (w' : World) : Prop :=
  Frm w.heap.size [b, bG] w w' ∧
  if m ≤ g[n]?.getD 0 then e = .returned (.agg #[.int .i64 0, .int .i64 0, .int .i64 0]) ∧ CentAt w' b bG bM now node number since wait wanted g
  else if (n : Int) = wanted ∧ (node = 0 ∨ node = n) then e = .returned (.agg #[.int .i64 2, .int .i64 n, .int .i64 m]) ∧ CentAt w' b bG bM now n m now wait wanted (g.set n m)
  else e = .returned (.agg #[.int .i64 0, .int .i64 0, .int .i64 0]) ∧ CentAt w' b bG bM now node number since wait wanted (g.set n m)

set_option maxRecDepth 100000 in
set_option maxHeartbeats 4000000 in
theorem ask_any (b : Nat) (w : World) (k : Int) (n : Nat) (m : Int) (h : CentAt w b bG bM now node number since wait wanted g) (hg : g.length ≤ 100000) (hn : n < g.length) :
    Calls Try.prog 45 #[.pointer (some ⟨b, 0, none⟩), .agg #[.int .i64 k, .int .i64 n, .int .i64 m]] w (Asked w b bG bM now node number since wait wanted g n m) := by
  have hb := h.blk.lt
  have hbG := h.row.lt
  have hbM := h.lt bM (by simp)
  have n1 := h.ne
  have x1 : w.heap.size ≠ b := by omega
  have x2 : w.heap.size ≠ bG := by omega
  have x3 : w.heap.size + 1 ≠ b := by omega
  have x4 : w.heap.size + 1 ≠ bG := by omega
  have x5 : b ≠ bG := by omega
  have hget := ints_get hn
  have eg : g[n]?.getD 0 = g[n] := by simp [hn]
  obtain ⟨⟨c0, c1, c2, c3, c4, c5, c6, c7, c8⟩, f0, f1, f2, f3, f6⟩ := cent_cells h.blk
  have r0 : w.cell? ⟨bG, n, none⟩ = some (.int .i64 g[n]) := (h.row.cell n).trans hget
  have fr0 := h.row.free n
  have H := Lib.hid h
  have HG := Lib.hid hget
  have EG := Lib.hid eg
  clear eg hget h
  clear c4 c5 c8
  have hn' : (n : Int) < (g.length : Int) := by omega
  have hn0 : (0 : Int) ≤ (n : Int) := by omega
  by_cases t1 : m ≤ g[n]
  · go_enter Try.func45, Try.ntmps45
    go_wp2_with fail
    go_quiet (fail)
    go_wp2
    refine bodyPost_ret (v := .agg #[.int .i64 0, .int .i64 0, .int .i64 0]) (by simp [results, Try.results45, go_sem]) rfl ?_
    refine ⟨by repeat (first | with_reducible exact Frm.refl _ _ _ | with_reducible refine Frm.drewN ?_ | with_reducible refine Frm.drew ?_ | ((with_reducible refine Frm.setCell' ?_ ?_); · first | (left; simp; done) | (right; simp; done) | (right; simp; omega)) | ((with_reducible refine Frm.alloc' ?_ ?_); · first | exact Nat.le_refl _ | (simp; done) | (simp; omega))), ?_⟩
    rw [if_pos (by rw [EG.out]; exact t1)]
    refine ⟨rfl, H.out.frm (B := w.heap.size) (S := []) (by repeat (first | with_reducible exact Frm.refl _ _ _ | with_reducible refine Frm.drewN ?_ | with_reducible refine Frm.drew ?_ | ((with_reducible refine Frm.setCell' ?_ ?_); · first | (left; simp; done) | (right; simp; done) | (right; simp; omega)) | ((with_reducible refine Frm.alloc' ?_ ?_); · first | exact Nat.le_refl _ | (simp; done) | (simp; omega)))) (fun x hx => ⟨H.out.lt x hx, by simp⟩)⟩
  · by_cases t2 : (n : Int) = wanted
    · have t3 : ((n : Int) != wanted) = false := by simpa using t2
      by_cases t4 : node = 0
      · have t5 : (node != 0) = false := by simpa using t4
        have T := Lib.hid t2
        have T4 : node = 0 ∨ node = (n : Int) := .inl t4
        have T4H := Lib.hid T4
        clear T4
        clear t2 t4
        go_enter Try.func45, Try.ntmps45
        go_wp2_with fail
        go_quiet (fail)
        go_wp2_with fail
        refine wp_region_left (by kernel_rfl) ?_
        refine Left.headD 9 (by kernel_rfl) ?_
        simp only [List.take_succ_cons, List.take_zero, List.drop_succ_cons, List.drop_zero, Nat.reduceSub]
        repeat (quiet_step (fail))
        refine wpQuiet_nil ?_
        rintro _ ⟨nq, rfl⟩
        refine Left.tail (by kernel_rfl) ?_
        simp only [List.drop_succ_cons, List.drop_zero]
        go_wp2_with fail
        go_quiet (fail)
        go_wp2_with fail
        refine wp_region_left (by kernel_rfl) ?_
        refine Left.headD 11 (by kernel_rfl) ?_
        simp only [List.take_succ_cons, List.take_zero, List.drop_succ_cons, List.drop_zero, Nat.reduceSub]
        repeat (quiet_step (fail))
        refine wpQuiet_nil ?_
        rintro _ ⟨nq, rfl⟩
        refine Left.tail (by kernel_rfl) ?_
        simp only [List.drop_succ_cons, List.drop_zero]
        go_wp2
        refine bodyPost_ret (v := .agg #[.int .i64 2, .int .i64 n, .int .i64 m]) (by simp [results, Try.results45, go_sem]) rfl ?_
        rw [Asked, if_neg (by rw [EG.out]; omega), if_pos ⟨T.out, T4H.out⟩]
        refine ⟨by repeat (first | with_reducible exact Frm.refl _ _ _ | with_reducible refine Frm.drewN ?_ | with_reducible refine Frm.drew ?_ | ((with_reducible refine Frm.setCell' ?_ ?_); · first | (left; simp; done) | (right; simp; done) | (right; simp; omega)) | ((with_reducible refine Frm.alloc' ?_ ?_); · first | exact Nat.le_refl _ | (simp; done) | (simp; omega))), rfl, H.out.turn (by repeat (first | with_reducible exact Frm.refl _ _ _ | with_reducible refine Frm.drewN ?_ | with_reducible refine Frm.drew ?_ | ((with_reducible refine Frm.setCell' ?_ ?_); · first | (left; simp; done) | (right; simp; done) | (right; simp; omega)) | ((with_reducible refine Frm.alloc' ?_ ?_); · first | exact Nat.le_refl _ | (simp; done) | (simp; omega)))) ?_ ?_⟩
        · rw [List.length_set]
          exact ((((((((H.out.blk.alloc _).alloc _).drewN.other ⟨bG, n, none⟩ n1 _).drewN.set 1 _).set 2 _).set 3 _).other ⟨_, 0, none⟩ x3 _).other ⟨_, 1, none⟩ x3 _).other ⟨_, 2, none⟩ x3 _
        · rw [← ints_set]
          exact ((((((((H.out.row.alloc _).alloc _).drewN.set n _).drewN.other ⟨b, 1, none⟩ x5 _).other ⟨b, 2, none⟩ x5 _).other ⟨b, 3, none⟩ x5 _).other ⟨_, 0, none⟩ x4 _).other ⟨_, 1, none⟩ x4 _).other ⟨_, 2, none⟩ x4 _
      · have t5 : (node != 0) = true := by simpa using t4
        by_cases t6 : node = (n : Int)
        · have t7 : (node != (n : Int)) = false := by simpa using t6
          have T := Lib.hid t2
          have T4H := Lib.hid (show node = 0 ∨ node = (n : Int) from .inr t6)
          clear t2 t4 t6
          go_enter Try.func45, Try.ntmps45
          go_wp2_with fail
          go_quiet (fail)
          go_wp2_with fail
          refine wp_region_left (by kernel_rfl) ?_
          refine Left.headD 9 (by kernel_rfl) ?_
          simp only [List.take_succ_cons, List.take_zero, List.drop_succ_cons, List.drop_zero, Nat.reduceSub]
          repeat (quiet_step (fail))
          refine wpQuiet_nil ?_
          rintro _ ⟨nq, rfl⟩
          refine Left.tail (by kernel_rfl) ?_
          simp only [List.drop_succ_cons, List.drop_zero]
          go_wp2_with fail
          go_quiet (fail)
          go_wp2_with fail
          refine wp_region_left (by kernel_rfl) ?_
          refine Left.headD 11 (by kernel_rfl) ?_
          simp only [List.take_succ_cons, List.take_zero, List.drop_succ_cons, List.drop_zero, Nat.reduceSub]
          repeat (quiet_step (fail))
          refine wpQuiet_nil ?_
          rintro _ ⟨nq, rfl⟩
          refine Left.tail (by kernel_rfl) ?_
          simp only [List.drop_succ_cons, List.drop_zero]
          go_wp2
          refine bodyPost_ret (v := .agg #[.int .i64 2, .int .i64 n, .int .i64 m]) (by simp [results, Try.results45, go_sem]) rfl ?_
          rw [Asked, if_neg (by rw [EG.out]; omega), if_pos ⟨T.out, T4H.out⟩]
          refine ⟨by repeat (first | with_reducible exact Frm.refl _ _ _ | with_reducible refine Frm.drewN ?_ | with_reducible refine Frm.drew ?_ | ((with_reducible refine Frm.setCell' ?_ ?_); · first | (left; simp; done) | (right; simp; done) | (right; simp; omega)) | ((with_reducible refine Frm.alloc' ?_ ?_); · first | exact Nat.le_refl _ | (simp; done) | (simp; omega))), rfl, H.out.turn (by repeat (first | with_reducible exact Frm.refl _ _ _ | with_reducible refine Frm.drewN ?_ | with_reducible refine Frm.drew ?_ | ((with_reducible refine Frm.setCell' ?_ ?_); · first | (left; simp; done) | (right; simp; done) | (right; simp; omega)) | ((with_reducible refine Frm.alloc' ?_ ?_); · first | exact Nat.le_refl _ | (simp; done) | (simp; omega)))) ?_ ?_⟩
          · rw [List.length_set]
            exact ((((((((H.out.blk.alloc _).alloc _).drewN.other ⟨bG, n, none⟩ n1 _).drewN.set 1 _).set 2 _).set 3 _).other ⟨_, 0, none⟩ x3 _).other ⟨_, 1, none⟩ x3 _).other ⟨_, 2, none⟩ x3 _
          · rw [← ints_set]
            exact ((((((((H.out.row.alloc _).alloc _).drewN.set n _).drewN.other ⟨b, 1, none⟩ x5 _).other ⟨b, 2, none⟩ x5 _).other ⟨b, 3, none⟩ x5 _).other ⟨_, 0, none⟩ x4 _).other ⟨_, 1, none⟩ x4 _).other ⟨_, 2, none⟩ x4 _
        · have t7 : (node != (n : Int)) = true := by simpa using t6
          have T := Lib.hid (show ¬ ((n : Int) = wanted ∧ (node = 0 ∨ node = n)) from fun h => h.2.elim t4 t6)
          clear t2 t4 t6
          go_enter Try.func45, Try.ntmps45
          go_wp2_with fail
          go_quiet (fail)
          go_wp2_with fail
          refine wp_region_left (by kernel_rfl) ?_
          refine Left.headD 9 (by kernel_rfl) ?_
          simp only [List.take_succ_cons, List.take_zero, List.drop_succ_cons, List.drop_zero, Nat.reduceSub]
          repeat (quiet_step (fail))
          refine wpQuiet_nil ?_
          rintro _ ⟨nq, rfl⟩
          refine Left.tail (by kernel_rfl) ?_
          simp only [List.drop_succ_cons, List.drop_zero]
          go_wp2_with fail
          go_quiet (fail)
          go_wp2
          refine bodyPost_ret (v := .agg #[.int .i64 0, .int .i64 0, .int .i64 0]) (by simp [results, Try.results45, go_sem]) rfl ?_
          rw [Asked, if_neg (by rw [EG.out]; omega), if_neg T.out]
          refine ⟨by repeat (first | with_reducible exact Frm.refl _ _ _ | with_reducible refine Frm.drewN ?_ | with_reducible refine Frm.drew ?_ | ((with_reducible refine Frm.setCell' ?_ ?_); · first | (left; simp; done) | (right; simp; done) | (right; simp; omega)) | ((with_reducible refine Frm.alloc' ?_ ?_); · first | exact Nat.le_refl _ | (simp; done) | (simp; omega))), rfl, H.out.turn (by repeat (first | with_reducible exact Frm.refl _ _ _ | with_reducible refine Frm.drewN ?_ | with_reducible refine Frm.drew ?_ | ((with_reducible refine Frm.setCell' ?_ ?_); · first | (left; simp; done) | (right; simp; done) | (right; simp; omega)) | ((with_reducible refine Frm.alloc' ?_ ?_); · first | exact Nat.le_refl _ | (simp; done) | (simp; omega)))) ?_ ?_⟩
          · rw [List.length_set]
            exact (((((H.out.blk.alloc _).alloc _).drewN.other ⟨bG, n, none⟩ n1 _).drewN.other ⟨_, 0, none⟩ x3 _).other ⟨_, 1, none⟩ x3 _).other ⟨_, 2, none⟩ x3 _
          · rw [← ints_set]
            exact (((((H.out.row.alloc _).alloc _).drewN.set n _).drewN.other ⟨_, 0, none⟩ x4 _).other ⟨_, 1, none⟩ x4 _).other ⟨_, 2, none⟩ x4 _
    · have t3 : ((n : Int) != wanted) = true := by simpa using t2
      have T := Lib.hid (show ¬ ((n : Int) = wanted ∧ (node = 0 ∨ node = n)) from fun h => t2 h.1)
      clear t2
      go_enter Try.func45, Try.ntmps45
      go_wp2_with fail
      go_quiet (fail)
      go_wp2_with fail
      refine wp_region_left (by kernel_rfl) ?_
      refine Left.headD 9 (by kernel_rfl) ?_
      simp only [List.take_succ_cons, List.take_zero, List.drop_succ_cons, List.drop_zero, Nat.reduceSub]
      repeat (quiet_step (fail))
      refine wpQuiet_nil ?_
      rintro _ ⟨nq, rfl⟩
      refine Left.tail (by kernel_rfl) ?_
      simp only [List.drop_succ_cons, List.drop_zero]
      go_wp2_with fail
      go_quiet (fail)
      go_wp2
      refine bodyPost_ret (v := .agg #[.int .i64 0, .int .i64 0, .int .i64 0]) (by simp [results, Try.results45, go_sem]) rfl ?_
      rw [Asked, if_neg (by rw [EG.out]; omega), if_neg T.out]
      refine ⟨by repeat (first | with_reducible exact Frm.refl _ _ _ | with_reducible refine Frm.drewN ?_ | with_reducible refine Frm.drew ?_ | ((with_reducible refine Frm.setCell' ?_ ?_); · first | (left; simp; done) | (right; simp; done) | (right; simp; omega)) | ((with_reducible refine Frm.alloc' ?_ ?_); · first | exact Nat.le_refl _ | (simp; done) | (simp; omega))), rfl, H.out.turn (by repeat (first | with_reducible exact Frm.refl _ _ _ | with_reducible refine Frm.drewN ?_ | with_reducible refine Frm.drew ?_ | ((with_reducible refine Frm.setCell' ?_ ?_); · first | (left; simp; done) | (right; simp; done) | (right; simp; omega)) | ((with_reducible refine Frm.alloc' ?_ ?_); · first | exact Nat.le_refl _ | (simp; done) | (simp; omega)))) ?_ ?_⟩
      · rw [List.length_set]
        exact (((((H.out.blk.alloc _).alloc _).drewN.other ⟨bG, n, none⟩ n1 _).drewN.other ⟨_, 0, none⟩ x3 _).other ⟨_, 1, none⟩ x3 _).other ⟨_, 2, none⟩ x3 _
      · rw [← ints_set]
        exact (((((H.out.row.alloc _).alloc _).drewN.set n _).drewN.other ⟨_, 0, none⟩ x4 _).other ⟨_, 1, none⟩ x4 _).other ⟨_, 2, none⟩ x4 _
end
end Go.Proofs.Ythmladcepkdheaa
