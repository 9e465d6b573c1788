/-
  The nodes' Return and Hear.
-/
import Derived.Test.YthmladcepkdheaaNode2
namespace Go.Proofs.Ythmladcepkdheaa
open Go.RowKit

section
variable {now number term end_ last : Int} {l : List (Int × Int)} {own : Option Nat}

/-- What a Grant with a number does to the asks: the time of that ask, and the asks behind it. -/
def takeL : List (Int × Int) → Int → Option (Int × List (Int × Int))
  | [], _ => none
  | p :: r, m => if p.1 = m then some (p.2, r) else takeL r m
theorem takeL_none {l : List (Int × Int)} {m : Int} (h : ∀ p ∈ l, p.1 ≠ m) : takeL l m = none := by
  induction l with
  | nil => rfl
  | cons p r ih =>
    rw [takeL, if_neg (h p (by simp))]
    exact ih fun q hq => h q (by simp [hq])
theorem takeL_some {pre post : List (Int × Int)} {x : Int × Int} {m : Int} (h : ∀ p ∈ pre, p.1 ≠ m) (hx : x.1 = m) : takeL (pre ++ x :: post) m = some (x.2, post) := by
  induction pre with
  | nil => simp [takeL, hx]
  | cons p r ih =>
    rw [List.cons_append, takeL, if_neg (h p (by simp))]
    exact ih fun q hq => h q (by simp [hq])

set_option maxHeartbeats 400000 in
/-- 'Return' ahead of the first Ask. -/
theorem nodeReturn_no (b : Nat) (w : World) (h : NodeAt w b now number term end_ 0 l own) :
    Calls Try.prog 23 #[.pointer (some ⟨b, 0, none⟩)] w fun e w' => e = .returned (.tuple #[.agg #[.int .i64 0, .int .i64 0, .int .i64 0], .int .i64 9]) ∧ Frm w.heap.size [] w w' := by
  obtain ⟨⟨asks, hb, hs⟩, hne⟩ := h
  obtain ⟨c0, c1, c2, c3, c4, c5, c6, f0, f4, f5, f6⟩ := node_cells hb
  have hlt := hb.lt
  have hbne : w.heap.size ≠ b := by omega
  have H := Lib.hid hb
  have HS := Lib.hid hs
  have HNE := Lib.hid hne
  clear hne hs hb
  clear c0 c1 c2 c3 c4 c6 f0 f4 f5 f6
  go_enter Try.func23, Try.ntmps23
  go_wp2_with fail
  refine (nodeIs _ _ (H.out.alloc _)).mono ?_; rintro e w' ⟨rfl, rfl⟩
  go_wp2
  refine bodyPost_ret (v := .tuple #[.agg #[.int .i64 0, .int .i64 0, .int .i64 0], .int .i64 9]) (by simp [results, Try.results23, go_sem]) rfl ⟨rfl, ?_⟩
  repeat (first | with_reducible exact Frm.refl _ _ _ | with_reducible refine Frm.drewN ?_ | with_reducible refine Frm.drew ?_ | ((with_reducible refine Frm.setCell' ?_ ?_); · first | (left; simp; done) | (right; simp; done) | (right; simp; omega)) | ((with_reducible refine Frm.alloc' ?_ ?_); · first | exact Nat.le_refl _ | (simp; done) | (simp; omega)))

set_option maxHeartbeats 400000 in
theorem nodeReturn (b : Nat) (w : World) (h : NodeAt w b now number term end_ last l own) (h0 : 0 < last) :
    Calls Try.prog 23 #[.pointer (some ⟨b, 0, none⟩)] w fun e w' => e = .returned (.tuple #[.agg #[.int .i64 3, .int .i64 number, .int .i64 last], .int .i64 0]) ∧
      NodeAt w' b now number term now last [] none ∧ Frm w.heap.size (nodeFoot b own) w w' := by
  obtain ⟨⟨asks, hb, hs⟩, hne⟩ := h
  obtain ⟨c0, c1, c2, c3, c4, c5, c6, f0, f4, f5, f6⟩ := node_cells hb
  have hlt := hb.lt
  have hbne : w.heap.size ≠ b := by omega
  have t1 : (last == 0) = false := by simp; omega
  have H := Lib.hid hb
  have HS := Lib.hid hs
  have HNE := Lib.hid hne
  have H0 := Lib.hid h0
  clear h0 hne hs hb
  clear c0 c1 c2 c3 c4 c6 f0 f4 f5 f6
  go_enter Try.func23, Try.ntmps23
  go_wp2_with fail
  refine (nodeIs _ _ (H.out.alloc _)).mono ?_; rintro e w' ⟨rfl, rfl⟩
  go_wp2_with fail
  refine (fall_any _ _ (H.out.alloc _)).mono ?_; rintro e w1 ⟨rfl, hb1, hf1⟩
  obtain ⟨c0, c1, c2, c3, c4, c5, c6, f0, f4, f5, f6⟩ := node_cells hb1
  have hbx := hf1.blk (b := w.heap.size) (T := 41) (cs := [.int .i64 0, .int .i64 0, .int .i64 0]) (Blk.new' w 41 [.int .i64 0, .int .i64 0, .int .i64 0] rfl) (by simp) (by simpa using hbne)
  obtain ⟨x0, x1, x2, y0, y1, y2⟩ : w1.cell? ⟨w.heap.size, 0, none⟩ = some (.int .i64 0) ∧ w1.cell? ⟨w.heap.size, 1, none⟩ = some (.int .i64 0) ∧ w1.cell? ⟨w.heap.size, 2, none⟩ = some (.int .i64 0) ∧
    w1.frozen? ⟨w.heap.size, 0, none⟩ = false ∧ w1.frozen? ⟨w.heap.size, 1, none⟩ = false ∧ w1.frozen? ⟨w.heap.size, 2, none⟩ = false := ⟨hbx.cell 0, hbx.cell 1, hbx.cell 2, hbx.free 0, hbx.free 1, hbx.free 2⟩
  have hsz := hf1.size
  have HB1 := Lib.hid hb1
  have HF1 := Lib.hid hf1
  have HBX := Lib.hid hbx
  clear hbx hf1 hb1
  clear c0 c1 c3 c4 c6 f0 f4 f5 f6
  go_wp2_with fail
  refine wp_region_left (by kernel_rfl) ?_
  refine Left.headD 9 (by kernel_rfl) ?_
  simp only [List.take_succ_cons, List.take_zero, List.drop_succ_cons, List.drop_zero, Nat.reduceSub]
  repeat (quiet_step (fail))
  refine wpQuiet_nil ?_
  rintro _ ⟨nq, rfl⟩
  refine Left.tail (by kernel_rfl) ?_
  simp only [List.drop_succ_cons, List.drop_zero]
  go_wp2
  refine bodyPost_ret (v := .tuple #[.agg #[.int .i64 3, .int .i64 number, .int .i64 last], .int .i64 0]) (by simp [results, Try.results23, go_sem, x0, x1, x2]) rfl ?_
  have n1 : NodeAt w1 b now number term now last [] none := ⟨⟨_, HB1.out, Sl.nil _ _ _⟩, by simp⟩
  have f1 : Frm w.heap.size (nodeFoot b own) w w1 := by
    refine Frm.call ?_ HF1.out (by simp) (fun _ _ h => by simp at h; simp [h, nodeFoot])
    repeat (first | with_reducible exact Frm.refl _ _ _ | with_reducible refine Frm.drewN ?_ | with_reducible refine Frm.drew ?_ | ((with_reducible refine Frm.setCell' ?_ ?_); · first | (left; simp; done) | (right; simp; done) | (right; simp; omega)) | ((with_reducible refine Frm.alloc' ?_ ?_); · first | exact Nat.le_refl _ | (simp; done) | (simp; omega)))
  refine ⟨rfl, n1.frm (B := w1.heap.size) (S := [w.heap.size]) ?_ ?_, f1.call (B' := w1.heap.size) (S' := [w.heap.size]) ?_ (by simp at hsz; omega) ?_⟩
  · repeat (first | with_reducible exact Frm.refl _ _ _ | with_reducible refine Frm.drewN ?_ | with_reducible refine Frm.drew ?_ | ((with_reducible refine Frm.setCell' ?_ ?_); · first | (left; simp; done) | (right; simp; done) | (right; simp; omega)) | ((with_reducible refine Frm.alloc' ?_ ?_); · first | exact Nat.le_refl _ | (simp; done) | (simp; omega)))
  · intro c hc
    refine ⟨n1.lt c hc, ?_⟩
    simp [nodeFoot] at hc
    simp; omega
  · repeat (first | with_reducible exact Frm.refl _ _ _ | with_reducible refine Frm.drewN ?_ | with_reducible refine Frm.drew ?_ | ((with_reducible refine Frm.setCell' ?_ ?_); · first | (left; simp; done) | (right; simp; done) | (right; simp; omega)) | ((with_reducible refine Frm.alloc' ?_ ?_); · first | exact Nat.le_refl _ | (simp; done) | (simp; omega)))
  · intro c h1 h2; simp at h2; omega

set_option maxHeartbeats 2000000 in
theorem nodeHear_bad (b : Nat) (w : World) (k n m : Int) (h : NodeAt w b now number term end_ last l own) (hbad : (wordB k n m && n == number) = false) :
    Calls Try.prog 19 #[.pointer (some ⟨b, 0, none⟩), .agg #[.int .i64 k, .int .i64 n, .int .i64 m]] w fun e w' => e = .returned (.int .i64 2) ∧ Frm w.heap.size [] w w' := by
  obtain ⟨⟨asks, hb, hs⟩, hne⟩ := h
  obtain ⟨c0, c1, c2, c3, c4, c5, c6, f0, f4, f5, f6⟩ := node_cells hb
  have hlt := hb.lt
  have hbne : w.heap.size ≠ b := by omega
  have HFX := Lib.hid (show ∀ w', Frm (w.heap.size + 1) [] (w.alloc (.cells #[.int .i64 k, .int .i64 n, .int .i64 m] 41)) w' → w.heap.size + 1 ≤ w'.heap.size ∧ w'.cell? ⟨w.heap.size, 0, none⟩ = some (.int .i64 k) ∧ w'.cell? ⟨w.heap.size, 1, none⟩ = some (.int .i64 n) ∧ w'.cell? ⟨w.heap.size, 2, none⟩ = some (.int .i64 m) ∧ w'.cell? ⟨b, 2, none⟩ = some (.int .i64 number) from
    fun w' hf => by
      have h1 := hf.blk (Blk.new w 41 [.int .i64 k, .int .i64 n, .int .i64 m]) (by omega) (by simp)
      have h2 := hf.blk (hb.alloc _) (by omega) (by simp)
      exact ⟨by simpa using hf.size, h1.cell 0, h1.cell 1, h1.cell 2, h2.cell 2⟩)
  have H := Lib.hid hb
  have HS := Lib.hid hs
  have HNE := Lib.hid hne
  clear hne hs hb
  clear c0 c1 c2 c3 c4 c5 c6 f0 f4 f5 f6
  cases hv : wordB k n m
  · have HV := Lib.hid hv
    clear hv
    clear hbad
    go_enter Try.func19, Try.ntmps19
    go_wp2_with fail
    refine (nodeIs _ _ (H.out.alloc _)).mono ?_; rintro e w' ⟨rfl, rfl⟩
    go_wp2_with fail
    refine wp_region_quiet (C := fun w' => Frm (w.heap.size + 1) [] (w.alloc (.cells #[.int .i64 k, .int .i64 n, .int .i64 m] 41)) w') (by kernel_rfl) (by kernel_rfl) (Frm.drew (Frm.refl _ _ _)) ?_
    repeat
      refine wpQuiet_step (fun K hK => ?_)
      go_simp
      first
        | (refine hK _ ?_; clear hK K)
        | (apply Exists.intro; refine ⟨fun wq hq => ?_, hK _ ?_⟩; (obtain ⟨z0, z1, z2, z3, z4⟩ := HFX.out wq hq; first | (go_at_call 50; exact (valid_any _ _ _ _).mono fun e w' ⟨p, q⟩ => ⟨by rw [p, HV.out], q ▸ hq.alloc z0 _⟩) | (go_simp; done) | (go_simp; rfl)); clear hK K)
    refine wpQuiet_nil ?_
    intro w1 hf1
    have HF1 := Lib.hid hf1
    clear hf1
    go_wp2
    go_ret
    refine ⟨rfl, Frm.call ?_ HF1.out (by omega) (by simp)⟩
    repeat (first | with_reducible exact Frm.refl _ _ _ | with_reducible refine Frm.drewN ?_ | with_reducible refine Frm.drew ?_ | ((with_reducible refine Frm.setCell' ?_ ?_); · first | (left; simp; done) | (right; simp; done) | (right; simp; omega)) | ((with_reducible refine Frm.alloc' ?_ ?_); · first | exact Nat.le_refl _ | (simp; done) | (simp; omega)))
  · have hnn : (n != number) = true := by rw [hv] at hbad; simpa [bne, Bool.not_eq_true] using hbad
    have HV := Lib.hid hv
    have HB := Lib.hid hbad
    clear hbad hv
    go_enter Try.func19, Try.ntmps19
    go_wp2_with fail
    refine (nodeIs _ _ (H.out.alloc _)).mono ?_; rintro e w' ⟨rfl, rfl⟩
    go_wp2_with fail
    refine wp_region_quiet (C := fun w' => Frm (w.heap.size + 1) [] (w.alloc (.cells #[.int .i64 k, .int .i64 n, .int .i64 m] 41)) w') (by kernel_rfl) (by kernel_rfl) (Frm.drew (Frm.refl _ _ _)) ?_
    repeat
      refine wpQuiet_step (fun K hK => ?_)
      go_simp
      first
        | (refine hK _ ?_; clear hK K)
        | (apply Exists.intro; refine ⟨fun wq hq => ?_, hK _ ?_⟩; (obtain ⟨z0, z1, z2, z3, z4⟩ := HFX.out wq hq; first | (go_at_call 50; exact (valid_any _ _ _ _).mono fun e w' ⟨p, q⟩ => ⟨by rw [p, HV.out], q ▸ hq.alloc z0 _⟩) | (go_simp; done) | (go_simp; rfl)); clear hK K)
    refine wpQuiet_nil ?_
    intro w1 hf1
    have HF1 := Lib.hid hf1
    clear hf1
    go_wp2
    go_ret
    refine ⟨rfl, Frm.call ?_ HF1.out (by omega) (by simp)⟩
    repeat (first | with_reducible exact Frm.refl _ _ _ | with_reducible refine Frm.drewN ?_ | with_reducible refine Frm.drew ?_ | ((with_reducible refine Frm.setCell' ?_ ?_); · first | (left; simp; done) | (right; simp; done) | (right; simp; omega)) | ((with_reducible refine Frm.alloc' ?_ ?_); · first | exact Nat.le_refl _ | (simp; done) | (simp; omega)))

set_option maxHeartbeats 2000000 in
theorem nodeHear_other (b : Nat) (w : World) (k n m : Int) (h : NodeAt w b now number term end_ last l own) (hok : wordB k n m = true) (hn : n = number) (hk : k ≠ 2) :
    Calls Try.prog 19 #[.pointer (some ⟨b, 0, none⟩), .agg #[.int .i64 k, .int .i64 n, .int .i64 m]] w fun e w' => e = .returned (.int .i64 0) ∧ Frm w.heap.size [] w w' := by
  subst hn
  obtain ⟨⟨asks, hb, hs⟩, hne⟩ := h
  obtain ⟨c0, c1, c2, c3, c4, c5, c6, f0, f4, f5, f6⟩ := node_cells hb
  have hlt := hb.lt
  have hbne : w.heap.size ≠ b := by omega
  have HFX := Lib.hid (show ∀ w', Frm (w.heap.size + 1) [] (w.alloc (.cells #[.int .i64 k, .int .i64 n, .int .i64 m] 41)) w' → w.heap.size + 1 ≤ w'.heap.size ∧ w'.cell? ⟨w.heap.size, 0, none⟩ = some (.int .i64 k) ∧ w'.cell? ⟨w.heap.size, 1, none⟩ = some (.int .i64 n) ∧ w'.cell? ⟨w.heap.size, 2, none⟩ = some (.int .i64 m) ∧ w'.cell? ⟨b, 2, none⟩ = some (.int .i64 n) from
    fun w' hf => by
      have h1 := hf.blk (Blk.new w 41 [.int .i64 k, .int .i64 n, .int .i64 m]) (by omega) (by simp)
      have h2 := hf.blk (hb.alloc _) (by omega) (by simp)
      exact ⟨by simpa using hf.size, h1.cell 0, h1.cell 1, h1.cell 2, h2.cell 2⟩)
  have hkk : (k != 2) = true := by simpa using hk
  have H := Lib.hid hb
  have HS := Lib.hid hs
  have HNE := Lib.hid hne
  have HV := Lib.hid hok
  clear hok hne hs hb
  clear c0 c1 c2 c3 c4 c5 c6 f0 f4 f5 f6 hk
  go_enter Try.func19, Try.ntmps19
  go_wp2_with fail
  refine (nodeIs _ _ (H.out.alloc _)).mono ?_; rintro e w' ⟨rfl, rfl⟩
  go_wp2_with fail
  refine wp_region_quiet (C := fun w' => Frm (w.heap.size + 1) [] (w.alloc (.cells #[.int .i64 k, .int .i64 n, .int .i64 m] 41)) w') (by kernel_rfl) (by kernel_rfl) (Frm.drew (Frm.refl _ _ _)) ?_
  repeat
    refine wpQuiet_step (fun K hK => ?_)
    go_simp
    first
      | (refine hK _ ?_; clear hK K)
      | (apply Exists.intro; refine ⟨fun wq hq => ?_, hK _ ?_⟩; (obtain ⟨z0, z1, z2, z3, z4⟩ := HFX.out wq hq; first | (go_at_call 50; exact (valid_any _ _ _ _).mono fun e w' ⟨p, q⟩ => ⟨by rw [p, HV.out], q ▸ hq.alloc z0 _⟩) | (go_simp; done) | (go_simp; rfl)); clear hK K)
  refine wpQuiet_nil ?_
  intro w1 hf1
  obtain ⟨z0, z1, z2, z3, z4⟩ := HFX.out w1 hf1
  have HF1 := Lib.hid hf1
  clear hf1
  clear z2 z3 z4
  go_wp2
  go_ret
  refine ⟨rfl, Frm.call ?_ HF1.out (by omega) (by simp)⟩
  repeat (first | with_reducible exact Frm.refl _ _ _ | with_reducible refine Frm.drewN ?_ | with_reducible refine Frm.drew ?_ | ((with_reducible refine Frm.setCell' ?_ ?_); · first | (left; simp; done) | (right; simp; done) | (right; simp; omega)) | ((with_reducible refine Frm.alloc' ?_ ?_); · first | exact Nat.le_refl _ | (simp; done) | (simp; omega)))

/-- What a Grant comes to. -/
def Granted (w : World) (b : Nat) (now number term end_ last : Int) (l : List (Int × Int)) (own : Option Nat) (m : Int) (e : Ending) (w' : World) : Prop :=
  e = .returned (.int .i64 0) ∧
  match takeL l m with
  | none => Frm w.heap.size [] w w'
  | some (t, r) => NodeAt w' b now number term (max end_ (t + term)) last r own ∧ Frm w.heap.size [b] w w'

set_option maxRecDepth 100000 in
set_option maxHeartbeats 4000000 in
theorem nodeHear_grant (b : Nat) (w : World) (m : Int) (h : NodeAt w b now number term end_ last l own) (hok : wordB 2 number m = true) (hl : l.length ≤ 100000)
    (ht : ∀ p ∈ l, 0 ≤ p.2 ∧ p.2 ≤ 1000000) (ht0 : 0 ≤ term) (ht1 : term ≤ 1000000) :
    Calls Try.prog 19 #[.pointer (some ⟨b, 0, none⟩), .agg #[.int .i64 2, .int .i64 number, .int .i64 m]] w (Granted w b now number term end_ last l own m) := by
  obtain ⟨⟨asks, hb, hs⟩, hne⟩ := h
  obtain ⟨c0, c1, c2, c3, c4, c5, c6, f0, f4, f5, f6⟩ := node_cells hb
  have hlt := hb.lt
  have hbne : w.heap.size ≠ b := by omega
  have HFX := Lib.hid (show ∀ w', Frm (w.heap.size + 1) [] (w.alloc (.cells #[.int .i64 2, .int .i64 number, .int .i64 m] 41)) w' → w.heap.size + 1 ≤ w'.heap.size ∧ w'.cell? ⟨w.heap.size, 0, none⟩ = some (.int .i64 2) ∧ w'.cell? ⟨w.heap.size, 1, none⟩ = some (.int .i64 number) ∧ w'.cell? ⟨w.heap.size, 2, none⟩ = some (.int .i64 m) ∧ w'.cell? ⟨b, 2, none⟩ = some (.int .i64 number) from
    fun w' hf => by
      have h1 := hf.blk (Blk.new w 41 [.int .i64 2, .int .i64 number, .int .i64 m]) (by omega) (by simp)
      have h2 := hf.blk (hb.alloc _) (by omega) (by simp)
      exact ⟨by simpa using hf.size, h1.cell 0, h1.cell 1, h1.cell 2, h2.cell 2⟩)
  have H := Lib.hid hb
  have HS := Lib.hid hs
  have HNE := Lib.hid hne
  have HV := Lib.hid hok
  have HL := Lib.hid hl
  have HT := Lib.hid ht
  clear ht hl hok hne hs hb
  clear c0 c1 c2 c3 c4 c5 c6 f0 f4 f5 f6
  go_enter Try.func19, Try.ntmps19
  go_wp2_with fail
  refine (nodeIs _ _ (H.out.alloc _)).mono ?_; rintro e w' ⟨rfl, rfl⟩
  go_wp2_with fail
  refine wp_region_quiet (C := fun w' => Frm (w.heap.size + 1) [] (w.alloc (.cells #[.int .i64 2, .int .i64 number, .int .i64 m] 41)) w') (by kernel_rfl) (by kernel_rfl) (Frm.drew (Frm.refl _ _ _)) ?_
  repeat
    refine wpQuiet_step (fun K hK => ?_)
    go_simp
    first
      | (refine hK _ ?_; clear hK K)
      | (apply Exists.intro; refine ⟨fun wq hq => ?_, hK _ ?_⟩; (obtain ⟨z0, z1, z2, z3, z4⟩ := HFX.out wq hq; first | (go_at_call 50; exact (valid_any _ _ _ _).mono fun e w' ⟨p, q⟩ => ⟨by rw [p, HV.out], q ▸ hq.alloc z0 _⟩) | (go_simp; done) | (go_simp; rfl)); clear hK K)
  refine wpQuiet_nil ?_
  intro w1 hf1
  obtain ⟨z0, z1, z2, z3, z4⟩ := HFX.out w1 hf1
  have hb1 := hf1.blk (H.out.alloc _) (by omega) (by simp)
  have hs1 := (HS.out.alloc (.cells #[.int .i64 2, .int .i64 number, .int .i64 m] 41)).frm hf1 (fun c hc => by have := HS.out.lt c hc; omega) (by simp)
  have HF1 := Lib.hid hf1
  have HB1 := Lib.hid hb1
  have HS1 := Lib.hid hs1
  clear hs1 hb1 hf1
  clear z2 z4
  go_wp2_with fail
  refine wp_region_left (by kernel_rfl) ?_
  refine Left.headD 5 (by kernel_rfl) ?_
  simp only [List.take_succ_cons, List.take_zero, List.drop_succ_cons, List.drop_zero, Nat.reduceSub]
  repeat (quiet_step (fail))
  refine wpQuiet_nil ?_
  rintro _ ⟨nq, rfl⟩
  refine Left.one rfl (by kernel_rfl) ?_
  go_wp2_with fail
  refine (take_any b m _ HB1.out.drewN (HS1.out.kept (fun _ _ => rfl)) HNE.out HL.out).mono ?_
  have HF0 := Lib.hid (show Frm w.heap.size [] w (w1.drewN (1 + nq)) from (Frm.call (by repeat (first | exact Frm.refl _ _ _ | refine Frm.alloc ?_ (by simp) _)) HF1.out (by omega) (by simp)).drewN)
  rintro e w2 (⟨rfl, hno, hf2⟩ | ⟨pr, x, post, asks', hl, hp, hx, rfl, hb2, hs2, hf2⟩)
  · have HNO := Lib.hid hno
    have HF2 := Lib.hid hf2
    clear hf2 hno
    go_wp2_with fail
    refine Left.headD 11 (by kernel_rfl) ?_
    simp only [List.take_succ_cons, List.take_zero, List.drop_succ_cons, List.drop_zero, Nat.reduceSub]
    repeat (quiet_step (fail))
    refine wpQuiet_nil ?_
    rintro _ ⟨nq, rfl⟩
    refine Left.done rfl (by kernel_rfl) ?_
    go_wp2
    go_ret
    refine ⟨rfl, ?_⟩
    rw [takeL_none HNO.out]
    exact (HF0.out.call HF2.out HF0.out.size (by simp)).drewN
  · obtain ⟨c0, c1, c2, c3, c4, c5, c6, f0, f4, f5, f6⟩ := node_cells hb2
    obtain ⟨htx0, htx1⟩ := HT.out x (by rw [hl]; simp)
    have HLL := Lib.hid hl
    have HP := Lib.hid hp
    have HX := Lib.hid hx
    have HB2 := Lib.hid hb2
    have HS2 := Lib.hid hs2
    have HF2 := Lib.hid hf2
    clear hf2 hs2 hb2 hx hp hl
    clear c0 c1 c2 c5 c6 f0 f5 f6
    go_wp2_with fail
    refine Left.headD 11 (by kernel_rfl) ?_
    simp only [List.take_succ_cons, List.take_zero, List.drop_succ_cons, List.drop_zero, Nat.reduceSub]
    repeat (quiet_step (fail))
    refine wpQuiet_nil ?_
    rintro _ ⟨nq, rfl⟩
    refine Left.done rfl (by kernel_rfl) ?_
    have hsum : IntKind.i64.wrap (x.2 + term) = x.2 + term := IntWalk.i64_in _ (by omega)
    go_wp2_with fail
    refine wp_region_left (by kernel_rfl) ?_
    refine Left.headD 12 (by kernel_rfl) ?_
    simp only [List.take_succ_cons, List.take_zero, List.drop_succ_cons, List.drop_zero, Nat.reduceSub]
    repeat (quiet_step (fail))
    refine wpQuiet_nil ?_
    rintro _ ⟨nq, rfl⟩
    refine Left.tail (by kernel_rfl) ?_
    simp only [List.drop_succ_cons, List.drop_zero]
    go_wp2
    all_goals
      go_ret
      refine ⟨rfl, ?_⟩
      have hL := HLL.out
      rw [hL, takeL_some HP.out HX.out]
      refine ⟨⟨⟨asks', ?_, ?_⟩, HNE.out⟩, ?_⟩
      · first
          | (rw [show max end_ (x.2 + term) = x.2 + term from by omega]; exact Blk.set (w := w2.drewN _) HB2.out 4 _)
          | (rw [show max end_ (x.2 + term) = end_ from by omega]; exact Blk.set (w := w2.drewN _) HB2.out 4 _)
      · exact (HS2.out.kept (fun _ _ => rfl)).setCell (w := w2.drewN _) _ _ (fun c hc e => HNE.out (by rw [hc, ← e]))
      · refine Frm.setCell ?_ (.inl (by simp)) _
        exact ((HF0.out.narrow (by simp)).call HF2.out HF0.out.size (by simp)).drewN
end
end Go.Proofs.Ythmladcepkdheaa
