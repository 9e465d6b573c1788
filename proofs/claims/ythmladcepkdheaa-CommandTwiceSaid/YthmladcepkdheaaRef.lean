/-
  The document's centre: what its functions answer.
-/
import Derived.Test.YthmladcepkdheaaRules
import Derived.Test.YthmladcepkdheaaLib3
namespace Go.Proofs.Ythmladcepkdheaa
open Go.RowKit

set_option maxHeartbeats 400000 in
theorem refWord_any (k n m : Int) (w : World) :
    Calls Try.prog 52 #[.agg #[.int .i64 k, .int .i64 n, .int .i64 m]] w fun e w' => e = .returned (.bool (wordB k n m)) ∧ w.alloc (.cells #[.int .i64 k, .int .i64 n, .int .i64 m] 41) = w' := by
  have HW : wordB k n m = (inB k 1 3 && inB n 1 8 && inB m 1 1099511627776) := rfl
  generalize wordB k n m = r at HW
  cases h1 : inB k 1 3 <;> cases h2 : inB n 1 8 <;> cases h3 : inB m 1 1099511627776 <;> simp only [h1, h2, h3, Bool.and_true, Bool.and_false, Bool.true_and, Bool.false_and] at HW <;> subst HW
  all_goals
    have H1 := Lib.hid h1
    have H2 := Lib.hid h2
    have H3 := Lib.hid h3
    clear h3 h2 h1
    go_enter Try.func52, Try.ntmps52
    go_wp2_with (go_at_call 47; refine (refIn_any _ _ _ _).mono ?_; rintro e w' ⟨rfl, rfl⟩; first | rw [H1.out] | rw [H2.out] | rw [H3.out])
    go_ret
    exact ⟨rfl, rfl⟩
theorem refWord_frm (k n m : Int) (w : World) :
    Calls Try.prog 52 #[.agg #[.int .i64 k, .int .i64 n, .int .i64 m]] w fun e w' => e = .returned (.bool (wordB k n m)) ∧ Frm w.heap.size [] w w' :=
  (refWord_any k n m w).mono fun e w' ⟨he, hw⟩ => ⟨he, hw ▸ (Frm.refl _ _ w).alloc (Nat.le_refl _) _⟩

/-- The document's centre. -/
structure RS where
  nodes : Int
  term : Int
  slow : Int
  now : Int
  wanted : Int
  g0 : Int
  g1 : Int
  g2 : Int
  g3 : Int
  g4 : Int
  g5 : Int
  g6 : Int
  g7 : Int
  g8 : Int
  lease : Int
  number : Int
  since : Int

def RS.cells (r : RS) : List Value := [.int .i64 r.nodes, .int .i64 r.term, .int .i64 r.slow, .int .i64 r.now, .int .i64 r.wanted, .int .i64 r.g0, .int .i64 r.g1, .int .i64 r.g2, .int .i64 r.g3, .int .i64 r.g4, .int .i64 r.g5, .int .i64 r.g6, .int .i64 r.g7, .int .i64 r.g8, .int .i64 r.lease, .int .i64 r.number, .int .i64 r.since]
abbrev RS.val (r : RS) : Value := .agg r.cells.toArray
theorem RS.len (r : RS) : r.cells.length = 17 := rfl
theorem RS.one (r : RS) : ∀ v ∈ r.cells, v.oneCell' = true := by simp [RS.cells, Value.oneCell']
theorem info59 : (Try.prog.info? 59).map (fun i => i.size) = some 17 := by kernel_rfl
theorem RS.info (r : RS) : (Try.prog.info? 59).map (fun i => i.size) = some r.cells.length := info59
def zero59 : List Value := [.int .i64 0, .int .i64 0, .int .i64 0, .int .i64 0, .int .i64 0, .int .i64 0, .int .i64 0, .int .i64 0, .int .i64 0, .int .i64 0, .int .i64 0, .int .i64 0, .int .i64 0, .int .i64 0, .int .i64 0, .int .i64 0, .int .i64 0]

/-- The document's centre in a box. -/
abbrev Box (w : World) (b : Nat) (r : RS) : Prop := Blk w b 59 r.cells

set_option maxRecDepth 100000 in
set_option maxHeartbeats 1000000 in
theorem refBreak_any (r : RS) (w : World) :
    Calls Try.prog 34 #[r.val] w fun e w' => e = .returned (RS.val { r with lease := -1, number := 0, since := r.now }) ∧ Frm w.heap.size [] w w' := by
  go_enter Try.func34, Try.ntmps34
  iterate 10 go_step
  refine named ?_; intro W hW
  have hb : Box W w.heap.size r := by rw [hW]; repeat (first | exact Blk.new w 59 r.cells | refine Blk.alloc' ?_)
  obtain ⟨zs, hz1, hz⟩ : ∃ zs, zs.length = 17 ∧ Blk W (w.heap.size + 1) 59 zs := ⟨zero59, rfl, by rw [hW]; repeat (first | exact Blk.new' _ 59 zero59 (by simp) | refine Blk.alloc' ?_)⟩
  have hf : Frm w.heap.size [] w W := by rw [hW]; repeat (first | with_reducible exact Frm.refl _ _ _ | with_reducible refine Frm.drewN ?_ | with_reducible refine Frm.drew ?_ | ((with_reducible refine Frm.setCell' ?_ ?_); · first | (left; simp; done) | (right; simp; done) | (right; simp; omega)) | ((with_reducible refine Frm.alloc' ?_ ?_); · first | exact Nat.le_refl _ | (simp; done) | (simp; omega)))
  have hs : W.heap.size = w.heap.size + 2 := by rw [hW]; simp
  clear hW
  have c3 : W.cell? ⟨w.heap.size, 3, none⟩ = some (.int .i64 r.now) := hb.cell 3
  have f3 := hb.free 3
  have c14 : W.cell? ⟨w.heap.size, 14, none⟩ = some (.int .i64 r.lease) := hb.cell 14
  have f14 := hb.free 14
  have c15 : W.cell? ⟨w.heap.size, 15, none⟩ = some (.int .i64 r.number) := hb.cell 15
  have f15 := hb.free 15
  have c16 : W.cell? ⟨w.heap.size, 16, none⟩ = some (.int .i64 r.since) := hb.cell 16
  have f16 := hb.free 16
  have HB := Lib.hid hb
  have HZ := Lib.hid hz
  have HF := Lib.hid hf
  have HS := Lib.hid hs
  clear hs hf hz hb
  go_wp2_with (first
    | (with_reducible refine atLoad 59 rfl ?_; refine wpList_loadB (ty := 59) rfl rfl (show Box _ _ { r with lease := -1, number := 0, since := r.now } from ((HB.out.set 14 _).set 15 _).set 16 _) rfl Try.underlying59 rfl (RS.info _) ?_)
    | (with_reducible refine atStore 59 rfl ?_; refine wpList_storeB (ty := 59) rfl rfl (b := w.heap.size + 1) (T := 59) (old := zs) ?_ rfl rfl (hz1.trans (RS.len _).symm) (RS.info _) (RS.one _) ?_; (· (repeat (first | with_reducible exact HZ.out | with_reducible refine Blk.drewN ?_ | with_reducible refine Blk.drew ?_ | with_reducible refine Blk.alloc' ?_ | ((with_reducible refine Blk.other' ?_ ?_); · (simp; try omega)) | ((with_reducible refine Blk.rowO ?_ ?_); · (simp; try omega)) | exact HZ.out)))))
  try simp only [Exit.inBlock, Exit.then]
  refine bodyPost_ret (v := RS.val { r with lease := -1, number := 0, since := r.now }) ?_ rfl ⟨rfl, ?_⟩
  · exact results_c rfl (cs := RS.cells { r with lease := -1, number := 0, since := r.now }) (Blk.row (T := 59) (old := zs) (by (repeat (first | with_reducible exact HZ.out | with_reducible refine Blk.drewN ?_ | with_reducible refine Blk.drew ?_ | with_reducible refine Blk.alloc' ?_ | ((with_reducible refine Blk.other' ?_ ?_); · (simp; try omega)) | ((with_reducible refine Blk.rowO ?_ ?_); · (simp; try omega)) | exact HZ.out))) _) rfl Try.underlying59 rfl (RS.info _)
  · refine HF.out.trans ?_
    repeat (first | with_reducible exact Frm.refl _ _ _ | with_reducible refine Frm.drewN ?_ | with_reducible refine Frm.drew ?_ | ((with_reducible refine Frm.setCell' ?_ ?_); · first | (left; simp; done) | (right; simp; done) | (right; simp; omega)) | ((with_reducible refine Frm.setRow' ?_ ?_); · first | (left; simp; done) | (right; simp; done) | (right; simp; omega)) | ((with_reducible refine Frm.alloc' ?_ ?_); · first | exact Nat.le_refl _ | (simp; done) | (simp; omega)))

set_option maxRecDepth 100000 in
set_option maxHeartbeats 1000000 in
theorem refWant_any (r : RS) (n : Int) (w : World) :
    Calls Try.prog 30 #[r.val, .int .i64 n] w fun e w' => e = .returned (if inB n 0 r.nodes then .tuple #[RS.val { r with wanted := n }, .int .i64 0] else .tuple #[r.val, .int .i64 7]) ∧ Frm w.heap.size [] w w' := by
  cases hn : inB n 0 r.nodes
  · have HN := Lib.hid hn
    clear hn
    go_enter Try.func30, Try.ntmps30
    iterate 13 go_step
    refine named ?_; intro W hW
    have hb : Box W w.heap.size r := by rw [hW]; repeat (first | exact Blk.new w 59 r.cells | refine Blk.alloc' ?_)
    obtain ⟨zs, hz1, hz⟩ : ∃ zs, zs.length = 17 ∧ Blk W (w.heap.size + 1) 59 zs := ⟨zero59, rfl, by rw [hW]; repeat (first | exact Blk.new' _ 59 zero59 (by simp) | refine Blk.alloc' ?_)⟩
    have hf : Frm w.heap.size [] w W := by rw [hW]; repeat (first | with_reducible exact Frm.refl _ _ _ | with_reducible refine Frm.drewN ?_ | with_reducible refine Frm.drew ?_ | ((with_reducible refine Frm.setCell' ?_ ?_); · first | (left; simp; done) | (right; simp; done) | (right; simp; omega)) | ((with_reducible refine Frm.alloc' ?_ ?_); · first | exact Nat.le_refl _ | (simp; done) | (simp; omega)))
    have hs : W.heap.size = w.heap.size + 2 := by rw [hW]; simp
    clear hW
    have c0 : W.cell? ⟨w.heap.size, 0, none⟩ = some (.int .i64 r.nodes) := hb.cell 0
    have f0 := hb.free 0
    have c4 : W.cell? ⟨w.heap.size, 4, none⟩ = some (.int .i64 r.wanted) := hb.cell 4
    have f4 := hb.free 4
    have HB := Lib.hid hb
    have HZ := Lib.hid hz
    have HF := Lib.hid hf
    have HS := Lib.hid hs
    clear hs hf hz hb
    go_wp2_with (first
      | (go_at_call 47; refine (refIn_any _ _ _ _).mono ?_; rintro e w' ⟨rfl, rfl⟩; rw [HN.out])
      | (with_reducible refine atLoad 59 rfl ?_; refine wpList_loadB (ty := 59) rfl rfl HB.out rfl Try.underlying59 rfl (RS.info _) ?_)
      | (with_reducible refine atStore 59 rfl ?_; refine wpList_storeB (ty := 59) rfl rfl (b := w.heap.size + 1) (T := 59) (old := zs) ?_ rfl rfl (hz1.trans (RS.len _).symm) (RS.info _) (RS.one _) ?_; (· (repeat (first | with_reducible exact HZ.out | with_reducible refine Blk.drewN ?_ | with_reducible refine Blk.drew ?_ | with_reducible refine Blk.alloc' ?_ | ((with_reducible refine Blk.other' ?_ ?_); · (simp; try omega)) | ((with_reducible refine Blk.rowO ?_ ?_); · (simp; try omega)) | exact HZ.out)))))
    try simp only [Exit.inBlock, Exit.then]
    refine bodyPost_ret (v := .tuple #[r.val, .int .i64 7]) ?_ rfl ⟨by simp, ?_⟩
    · refine results_ct Try.results30 (cs := RS.cells r) (Blk.row (T := 59) (old := zs) (by (repeat (first | with_reducible exact HZ.out | with_reducible refine Blk.drewN ?_ | with_reducible refine Blk.drew ?_ | with_reducible refine Blk.alloc' ?_ | ((with_reducible refine Blk.other' ?_ ?_); · (simp; try omega)) | ((with_reducible refine Blk.rowO ?_ ?_); · (simp; try omega)) | exact HZ.out))) _) rfl Try.underlying59 rfl (RS.info _)
    · refine HF.out.trans ?_
      repeat (first | with_reducible exact Frm.refl _ _ _ | with_reducible refine Frm.drewN ?_ | with_reducible refine Frm.drew ?_ | ((with_reducible refine Frm.setCell' ?_ ?_); · first | (left; simp; done) | (right; simp; done) | (right; simp; omega)) | ((with_reducible refine Frm.setRow' ?_ ?_); · first | (left; simp; done) | (right; simp; done) | (right; simp; omega)) | ((with_reducible refine Frm.alloc' ?_ ?_); · first | exact Nat.le_refl _ | (simp; done) | (simp; omega)))
  · have HN := Lib.hid hn
    clear hn
    go_enter Try.func30, Try.ntmps30
    iterate 13 go_step
    refine named ?_; intro W hW
    have hb : Box W w.heap.size r := by rw [hW]; repeat (first | exact Blk.new w 59 r.cells | refine Blk.alloc' ?_)
    obtain ⟨zs, hz1, hz⟩ : ∃ zs, zs.length = 17 ∧ Blk W (w.heap.size + 1) 59 zs := ⟨zero59, rfl, by rw [hW]; repeat (first | exact Blk.new' _ 59 zero59 (by simp) | refine Blk.alloc' ?_)⟩
    have hf : Frm w.heap.size [] w W := by rw [hW]; repeat (first | with_reducible exact Frm.refl _ _ _ | with_reducible refine Frm.drewN ?_ | with_reducible refine Frm.drew ?_ | ((with_reducible refine Frm.setCell' ?_ ?_); · first | (left; simp; done) | (right; simp; done) | (right; simp; omega)) | ((with_reducible refine Frm.alloc' ?_ ?_); · first | exact Nat.le_refl _ | (simp; done) | (simp; omega)))
    have hs : W.heap.size = w.heap.size + 2 := by rw [hW]; simp
    clear hW
    have c0 : W.cell? ⟨w.heap.size, 0, none⟩ = some (.int .i64 r.nodes) := hb.cell 0
    have f0 := hb.free 0
    have c4 : W.cell? ⟨w.heap.size, 4, none⟩ = some (.int .i64 r.wanted) := hb.cell 4
    have f4 := hb.free 4
    have HB := Lib.hid hb
    have HZ := Lib.hid hz
    have HF := Lib.hid hf
    have HS := Lib.hid hs
    clear hs hf hz hb
    go_wp2_with (first
      | (go_at_call 47; refine (refIn_any _ _ _ _).mono ?_; rintro e w' ⟨rfl, rfl⟩; rw [HN.out])
      | (with_reducible refine atLoad 59 rfl ?_; refine wpList_loadB (ty := 59) rfl rfl (show Box _ _ { r with wanted := n } from HB.out.set 4 _) rfl Try.underlying59 rfl (RS.info _) ?_)
      | (with_reducible refine atStore 59 rfl ?_; refine wpList_storeB (ty := 59) rfl rfl (b := w.heap.size + 1) (T := 59) (old := zs) ?_ rfl rfl (hz1.trans (RS.len _).symm) (RS.info _) (RS.one _) ?_; (· (repeat (first | with_reducible exact HZ.out | with_reducible refine Blk.drewN ?_ | with_reducible refine Blk.drew ?_ | with_reducible refine Blk.alloc' ?_ | ((with_reducible refine Blk.other' ?_ ?_); · (simp; try omega)) | ((with_reducible refine Blk.rowO ?_ ?_); · (simp; try omega)) | exact HZ.out)))))
    try simp only [Exit.inBlock, Exit.then]
    refine bodyPost_ret (v := .tuple #[RS.val { r with wanted := n }, .int .i64 0]) ?_ rfl ⟨by simp, ?_⟩
    · refine results_ct Try.results30 (cs := RS.cells { r with wanted := n }) (Blk.row (T := 59) (old := zs) (by (repeat (first | with_reducible exact HZ.out | with_reducible refine Blk.drewN ?_ | with_reducible refine Blk.drew ?_ | with_reducible refine Blk.alloc' ?_ | ((with_reducible refine Blk.other' ?_ ?_); · (simp; try omega)) | ((with_reducible refine Blk.rowO ?_ ?_); · (simp; try omega)) | exact HZ.out))) _) rfl Try.underlying59 rfl (RS.info _)
    · refine HF.out.trans ?_
      repeat (first | with_reducible exact Frm.refl _ _ _ | with_reducible refine Frm.drewN ?_ | with_reducible refine Frm.drew ?_ | ((with_reducible refine Frm.setCell' ?_ ?_); · first | (left; simp; done) | (right; simp; done) | (right; simp; omega)) | ((with_reducible refine Frm.setRow' ?_ ?_); · first | (left; simp; done) | (right; simp; done) | (right; simp; omega)) | ((with_reducible refine Frm.alloc' ?_ ?_); · first | exact Nat.le_refl _ | (simp; done) | (simp; omega)))

/-- What 'Leased' answers. -/
def RS.leased (r : RS) : Int × Int := if r.lease = 0 then (0, 0) else (r.lease, r.since)
set_option maxRecDepth 100000 in
set_option maxHeartbeats 1000000 in
theorem refLeased_any (r : RS) (w : World) :
    Calls Try.prog 38 #[r.val] w fun e w' => e = .returned (.tuple #[.int .i64 r.leased.1, .int .i64 r.leased.2]) ∧ Frm w.heap.size [] w w' := by
  have HL : r.leased = if r.lease = 0 then (0, 0) else (r.lease, r.since) := rfl
  generalize r.leased = q at HL
  have hcut : ∀ W, W = w.alloc (.cells r.cells.toArray 59) → Box W w.heap.size r ∧ Frm w.heap.size [] w W := fun W hW => by subst hW; exact ⟨Blk.new w 59 r.cells, (Frm.refl _ _ w).alloc (Nat.le_refl _) _⟩
  by_cases h : r.lease = 0
  · rw [if_pos h] at HL
    subst HL
    go_enter Try.func38, Try.ntmps38
    iterate 13 go_step
    refine named ?_; intro W hW
    obtain ⟨hb, hf⟩ := hcut W hW
    clear hW hcut
    have c14 : W.cell? ⟨w.heap.size, 14, none⟩ = some (.int .i64 r.lease) := hb.cell 14
    have f14 := hb.free 14
    have c16 : W.cell? ⟨w.heap.size, 16, none⟩ = some (.int .i64 r.since) := hb.cell 16
    have f16 := hb.free 16
    have HB := Lib.hid hb
    have HF := Lib.hid hf
    clear hf hb
    go_wp2_with fail
    go_ret2
    refine ⟨rfl, HF.out⟩
  · rw [if_neg h] at HL
    subst HL
    go_enter Try.func38, Try.ntmps38
    iterate 13 go_step
    refine named ?_; intro W hW
    obtain ⟨hb, hf⟩ := hcut W hW
    clear hW hcut
    have c14 : W.cell? ⟨w.heap.size, 14, none⟩ = some (.int .i64 r.lease) := hb.cell 14
    have f14 := hb.free 14
    have c16 : W.cell? ⟨w.heap.size, 16, none⟩ = some (.int .i64 r.since) := hb.cell 16
    have f16 := hb.free 16
    have HB := Lib.hid hb
    have HF := Lib.hid hf
    clear hf hb
    go_wp2_with fail
    go_quiet (fail)
    go_wp2
    go_ret2
    refine ⟨rfl, HF.out.trans ?_⟩
    repeat (first | with_reducible exact Frm.refl _ _ _ | with_reducible refine Frm.drewN ?_ | with_reducible refine Frm.drew ?_ | ((with_reducible refine Frm.setCell' ?_ ?_); · first | (left; simp; done) | (right; simp; done) | (right; simp; omega)) | ((with_reducible refine Frm.setRow' ?_ ?_); · first | (left; simp; done) | (right; simp; done) | (right; simp; omega)) | ((with_reducible refine Frm.alloc' ?_ ?_); · first | exact Nat.le_refl _ | (simp; done) | (simp; omega)))

/-- What 'Tick' makes of the document's centre. -/
def RS.tick (r : RS) (wait : Int) : RS := if r.lease ≠ 0 ∧ r.since + wait ≤ r.now + 1 then { r with now := r.now + 1, lease := 0 } else { r with now := r.now + 1 }
set_option maxRecDepth 100000 in
set_option maxHeartbeats 2000000 in
theorem refTick_any (r : RS) (w : World) (wait wx : Int) (hw : waitR r.term r.slow = (wait, wx)) (h0 : 0 ≤ r.now) (h1 : r.now ≤ 1000000) (h2 : 0 ≤ r.since) (h3 : r.since ≤ 1000000) (h4 : 0 ≤ wait) (h5 : wait ≤ 1000000) :
    Calls Try.prog 36 #[r.val] w fun e w' => e = .returned (r.tick wait).val ∧ Frm w.heap.size [] w w' := by
  have HW := fun w0 => refWait_any r.term r.slow w0
  rw [hw] at HW
  simp only at HW
  clear hw
  have HT : r.tick wait = if r.lease ≠ 0 ∧ r.since + wait ≤ r.now + 1 then { r with now := r.now + 1, lease := 0 } else { r with now := r.now + 1 } := rfl
  generalize r.tick wait = s at HT
  by_cases t1 : r.lease = 0
  · rw [if_neg (fun h => h.1 t1)] at HT
    subst HT
    go_enter Try.func36, Try.ntmps36
    iterate 10 go_step
    refine named ?_; intro W hW
    have hb : Box W w.heap.size r := by rw [hW]; repeat (first | exact Blk.new w 59 r.cells | refine Blk.alloc' ?_)
    obtain ⟨zs, hz1, hz⟩ : ∃ zs, zs.length = 17 ∧ Blk W (w.heap.size + 1) 59 zs := ⟨zero59, rfl, by rw [hW]; repeat (first | exact Blk.new' _ 59 zero59 (by simp) | refine Blk.alloc' ?_)⟩
    have hf : Frm w.heap.size [] w W := by rw [hW]; repeat (first | with_reducible exact Frm.refl _ _ _ | with_reducible refine Frm.drewN ?_ | with_reducible refine Frm.drew ?_ | ((with_reducible refine Frm.setCell' ?_ ?_); · first | (left; simp; done) | (right; simp; done) | (right; simp; omega)) | ((with_reducible refine Frm.alloc' ?_ ?_); · first | exact Nat.le_refl _ | (simp; done) | (simp; omega)))
    have hs : W.heap.size = w.heap.size + 2 := by rw [hW]; simp
    clear hW
    have c1 : W.cell? ⟨w.heap.size, 1, none⟩ = some (.int .i64 r.term) := hb.cell 1
    have f1 := hb.free 1
    have c2 : W.cell? ⟨w.heap.size, 2, none⟩ = some (.int .i64 r.slow) := hb.cell 2
    have f2 := hb.free 2
    have c3 : W.cell? ⟨w.heap.size, 3, none⟩ = some (.int .i64 r.now) := hb.cell 3
    have f3 := hb.free 3
    have c14 : W.cell? ⟨w.heap.size, 14, none⟩ = some (.int .i64 r.lease) := hb.cell 14
    have f14 := hb.free 14
    have c16 : W.cell? ⟨w.heap.size, 16, none⟩ = some (.int .i64 r.since) := hb.cell 16
    have f16 := hb.free 16
    have HB := Lib.hid hb
    have HZ := Lib.hid hz
    have HF := Lib.hid hf
    have HS := Lib.hid hs
    have HWW := Lib.hid HW
    clear HW hs hf hz hb
    go_wp2_with (first
      | (go_at_call 12; refine (HWW.out _).mono ?_; rintro e w' ⟨rfl, rfl⟩)
      | (with_reducible refine atLoad 59 rfl ?_; refine wpList_loadB (ty := 59) rfl rfl (show Box _ _ { r with now := r.now + 1 } from HB.out.set 3 _) rfl Try.underlying59 rfl (RS.info _) ?_)
      | (with_reducible refine atStore 59 rfl ?_; refine wpList_storeB (ty := 59) rfl rfl (b := w.heap.size + 1) (T := 59) (old := zs) ?_ rfl rfl (hz1.trans (RS.len _).symm) (RS.info _) (RS.one _) ?_; (· (repeat (first | with_reducible exact HZ.out | with_reducible refine Blk.drewN ?_ | with_reducible refine Blk.drew ?_ | with_reducible refine Blk.alloc' ?_ | ((with_reducible refine Blk.other' ?_ ?_); · (simp; try omega)) | ((with_reducible refine Blk.rowO ?_ ?_); · (simp; try omega)) | exact HZ.out)))))
    try simp only [Exit.inBlock, Exit.then]
    refine bodyPost_ret (v := RS.val { r with now := r.now + 1 }) ?_ rfl ⟨rfl, ?_⟩
    · exact results_c rfl (cs := RS.cells { r with now := r.now + 1 }) (Blk.row (T := 59) (old := zs) (by (repeat (first | with_reducible exact HZ.out | with_reducible refine Blk.drewN ?_ | with_reducible refine Blk.drew ?_ | with_reducible refine Blk.alloc' ?_ | ((with_reducible refine Blk.other' ?_ ?_); · (simp; try omega)) | ((with_reducible refine Blk.rowO ?_ ?_); · (simp; try omega)) | exact HZ.out))) _) rfl Try.underlying59 rfl (RS.info _)
    · refine HF.out.trans ?_
      repeat (first | with_reducible exact Frm.refl _ _ _ | with_reducible refine Frm.drewN ?_ | with_reducible refine Frm.drew ?_ | ((with_reducible refine Frm.setCell' ?_ ?_); · first | (left; simp; done) | (right; simp; done) | (right; simp; omega)) | ((with_reducible refine Frm.setRow' ?_ ?_); · first | (left; simp; done) | (right; simp; done) | (right; simp; omega)) | ((with_reducible refine Frm.alloc' ?_ ?_); · first | exact Nat.le_refl _ | (simp; done) | (simp; omega)))
  · by_cases t2 : r.since + wait ≤ r.now + 1
    · rw [if_pos ⟨t1, t2⟩] at HT
      subst HT
      go_enter Try.func36, Try.ntmps36
      iterate 10 go_step
      refine named ?_; intro W hW
      have hb : Box W w.heap.size r := by rw [hW]; repeat (first | exact Blk.new w 59 r.cells | refine Blk.alloc' ?_)
      obtain ⟨zs, hz1, hz⟩ : ∃ zs, zs.length = 17 ∧ Blk W (w.heap.size + 1) 59 zs := ⟨zero59, rfl, by rw [hW]; repeat (first | exact Blk.new' _ 59 zero59 (by simp) | refine Blk.alloc' ?_)⟩
      have hf : Frm w.heap.size [] w W := by rw [hW]; repeat (first | with_reducible exact Frm.refl _ _ _ | with_reducible refine Frm.drewN ?_ | with_reducible refine Frm.drew ?_ | ((with_reducible refine Frm.setCell' ?_ ?_); · first | (left; simp; done) | (right; simp; done) | (right; simp; omega)) | ((with_reducible refine Frm.alloc' ?_ ?_); · first | exact Nat.le_refl _ | (simp; done) | (simp; omega)))
      have hs : W.heap.size = w.heap.size + 2 := by rw [hW]; simp
      clear hW
      have c1 : W.cell? ⟨w.heap.size, 1, none⟩ = some (.int .i64 r.term) := hb.cell 1
      have f1 := hb.free 1
      have c2 : W.cell? ⟨w.heap.size, 2, none⟩ = some (.int .i64 r.slow) := hb.cell 2
      have f2 := hb.free 2
      have c3 : W.cell? ⟨w.heap.size, 3, none⟩ = some (.int .i64 r.now) := hb.cell 3
      have f3 := hb.free 3
      have c14 : W.cell? ⟨w.heap.size, 14, none⟩ = some (.int .i64 r.lease) := hb.cell 14
      have f14 := hb.free 14
      have c16 : W.cell? ⟨w.heap.size, 16, none⟩ = some (.int .i64 r.since) := hb.cell 16
      have f16 := hb.free 16
      have HB := Lib.hid hb
      have HZ := Lib.hid hz
      have HF := Lib.hid hf
      have HS := Lib.hid hs
      have HWW := Lib.hid HW
      clear HW hs hf hz hb
      go_wp2_with (first
        | (go_at_call 12; refine (HWW.out _).mono ?_; rintro e w' ⟨rfl, rfl⟩)
        | (with_reducible refine atLoad 59 rfl ?_; refine wpList_loadB (ty := 59) rfl rfl (show Box _ _ { r with now := r.now + 1, lease := 0 } from (HB.out.set 3 _).set 14 _) rfl Try.underlying59 rfl (RS.info _) ?_)
        | (with_reducible refine atStore 59 rfl ?_; refine wpList_storeB (ty := 59) rfl rfl (b := w.heap.size + 1) (T := 59) (old := zs) ?_ rfl rfl (hz1.trans (RS.len _).symm) (RS.info _) (RS.one _) ?_; (· (repeat (first | with_reducible exact HZ.out | with_reducible refine Blk.drewN ?_ | with_reducible refine Blk.drew ?_ | with_reducible refine Blk.alloc' ?_ | ((with_reducible refine Blk.other' ?_ ?_); · (simp; try omega)) | ((with_reducible refine Blk.rowO ?_ ?_); · (simp; try omega)) | exact HZ.out)))))
      try simp only [Exit.inBlock, Exit.then]
      refine bodyPost_ret (v := RS.val { r with now := r.now + 1, lease := 0 }) ?_ rfl ⟨rfl, ?_⟩
      · exact results_c rfl (cs := RS.cells { r with now := r.now + 1, lease := 0 }) (Blk.row (T := 59) (old := zs) (by (repeat (first | with_reducible exact HZ.out | with_reducible refine Blk.drewN ?_ | with_reducible refine Blk.drew ?_ | with_reducible refine Blk.alloc' ?_ | ((with_reducible refine Blk.other' ?_ ?_); · (simp; try omega)) | ((with_reducible refine Blk.rowO ?_ ?_); · (simp; try omega)) | exact HZ.out))) _) rfl Try.underlying59 rfl (RS.info _)
      · refine HF.out.trans ?_
        repeat (first | with_reducible exact Frm.refl _ _ _ | with_reducible refine Frm.drewN ?_ | with_reducible refine Frm.drew ?_ | ((with_reducible refine Frm.setCell' ?_ ?_); · first | (left; simp; done) | (right; simp; done) | (right; simp; omega)) | ((with_reducible refine Frm.setRow' ?_ ?_); · first | (left; simp; done) | (right; simp; done) | (right; simp; omega)) | ((with_reducible refine Frm.alloc' ?_ ?_); · first | exact Nat.le_refl _ | (simp; done) | (simp; omega)))
    · rw [if_neg (fun h => t2 h.2)] at HT
      subst HT
      go_enter Try.func36, Try.ntmps36
      iterate 10 go_step
      refine named ?_; intro W hW
      have hb : Box W w.heap.size r := by rw [hW]; repeat (first | exact Blk.new w 59 r.cells | refine Blk.alloc' ?_)
      obtain ⟨zs, hz1, hz⟩ : ∃ zs, zs.length = 17 ∧ Blk W (w.heap.size + 1) 59 zs := ⟨zero59, rfl, by rw [hW]; repeat (first | exact Blk.new' _ 59 zero59 (by simp) | refine Blk.alloc' ?_)⟩
      have hf : Frm w.heap.size [] w W := by rw [hW]; repeat (first | with_reducible exact Frm.refl _ _ _ | with_reducible refine Frm.drewN ?_ | with_reducible refine Frm.drew ?_ | ((with_reducible refine Frm.setCell' ?_ ?_); · first | (left; simp; done) | (right; simp; done) | (right; simp; omega)) | ((with_reducible refine Frm.alloc' ?_ ?_); · first | exact Nat.le_refl _ | (simp; done) | (simp; omega)))
      have hs : W.heap.size = w.heap.size + 2 := by rw [hW]; simp
      clear hW
      have c1 : W.cell? ⟨w.heap.size, 1, none⟩ = some (.int .i64 r.term) := hb.cell 1
      have f1 := hb.free 1
      have c2 : W.cell? ⟨w.heap.size, 2, none⟩ = some (.int .i64 r.slow) := hb.cell 2
      have f2 := hb.free 2
      have c3 : W.cell? ⟨w.heap.size, 3, none⟩ = some (.int .i64 r.now) := hb.cell 3
      have f3 := hb.free 3
      have c14 : W.cell? ⟨w.heap.size, 14, none⟩ = some (.int .i64 r.lease) := hb.cell 14
      have f14 := hb.free 14
      have c16 : W.cell? ⟨w.heap.size, 16, none⟩ = some (.int .i64 r.since) := hb.cell 16
      have f16 := hb.free 16
      have HB := Lib.hid hb
      have HZ := Lib.hid hz
      have HF := Lib.hid hf
      have HS := Lib.hid hs
      have HWW := Lib.hid HW
      clear HW hs hf hz hb
      go_wp2_with (first
        | (go_at_call 12; refine (HWW.out _).mono ?_; rintro e w' ⟨rfl, rfl⟩)
        | (with_reducible refine atLoad 59 rfl ?_; refine wpList_loadB (ty := 59) rfl rfl (show Box _ _ { r with now := r.now + 1 } from HB.out.set 3 _) rfl Try.underlying59 rfl (RS.info _) ?_)
        | (with_reducible refine atStore 59 rfl ?_; refine wpList_storeB (ty := 59) rfl rfl (b := w.heap.size + 1) (T := 59) (old := zs) ?_ rfl rfl (hz1.trans (RS.len _).symm) (RS.info _) (RS.one _) ?_; (· (repeat (first | with_reducible exact HZ.out | with_reducible refine Blk.drewN ?_ | with_reducible refine Blk.drew ?_ | with_reducible refine Blk.alloc' ?_ | ((with_reducible refine Blk.other' ?_ ?_); · (simp; try omega)) | ((with_reducible refine Blk.rowO ?_ ?_); · (simp; try omega)) | exact HZ.out)))))
      try simp only [Exit.inBlock, Exit.then]
      refine bodyPost_ret (v := RS.val { r with now := r.now + 1 }) ?_ rfl ⟨rfl, ?_⟩
      · exact results_c rfl (cs := RS.cells { r with now := r.now + 1 }) (Blk.row (T := 59) (old := zs) (by (repeat (first | with_reducible exact HZ.out | with_reducible refine Blk.drewN ?_ | with_reducible refine Blk.drew ?_ | with_reducible refine Blk.alloc' ?_ | ((with_reducible refine Blk.other' ?_ ?_); · (simp; try omega)) | ((with_reducible refine Blk.rowO ?_ ?_); · (simp; try omega)) | exact HZ.out))) _) rfl Try.underlying59 rfl (RS.info _)
      · refine HF.out.trans ?_
        repeat (first | with_reducible exact Frm.refl _ _ _ | with_reducible refine Frm.drewN ?_ | with_reducible refine Frm.drew ?_ | ((with_reducible refine Frm.setCell' ?_ ?_); · first | (left; simp; done) | (right; simp; done) | (right; simp; omega)) | ((with_reducible refine Frm.setRow' ?_ ?_); · first | (left; simp; done) | (right; simp; done) | (right; simp; omega)) | ((with_reducible refine Frm.alloc' ?_ ?_); · first | exact Nat.le_refl _ | (simp; done) | (simp; omega)))
end Go.Proofs.Ythmladcepkdheaa
