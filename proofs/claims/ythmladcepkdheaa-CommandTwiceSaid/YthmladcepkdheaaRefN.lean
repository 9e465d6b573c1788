/-
  The document's node: what its functions answer.
-/
import Derived.Test.YthmladcepkdheaaRef
import Derived.Test.YthmladcepkdheaaLib4
namespace Go.Proofs.Ythmladcepkdheaa
open Go.RowKit

/-- The document's node: its cells. -/
def nodeC (s : NS) (v : Value) : List Value := [.int .i64 s.number, .int .i64 s.term, .int .i64 s.now, .int .i64 s.last, .int .i64 s.end_, v]
theorem nodeC_len (s : NS) (v : Value) : (nodeC s v).length = 6 := rfl
theorem nodeC_one (s : NS) {v : Value} (hv : v.oneCell' = true) : ∀ u ∈ nodeC s v, u.oneCell' = true := by
  intro u hu
  simp only [nodeC, List.mem_cons, List.not_mem_nil, or_false] at hu
  rcases hu with rfl | rfl | rfl | rfl | rfl | rfl
  all_goals first | exact hv | rfl
theorem info39 : (Try.prog.info? 39).map (fun i => i.size) = some 6 := by kernel_rfl
theorem nodeC_info (s : NS) (v : Value) : (Try.prog.info? 39).map (fun i => i.size) = some (nodeC s v).length := info39
abbrev wordL (x : Int × Int × Int) : List Value := [.int .i64 x.1, .int .i64 x.2.1, .int .i64 x.2.2]
theorem info41' : (Try.prog.info? 41).map (fun i => i.size) = some 3 := by kernel_rfl
theorem wordL_info (x : Int × Int × Int) : (Try.prog.info? 41).map (fun i => i.size) = some (wordL x).length := info41'
theorem wordL_one (x : Int × Int × Int) : ∀ v ∈ wordL x, v.oneCell' = true := by simp [wordL, Value.oneCell']
def zero39 : List Value := [.int .i64 0, .int .i64 0, .int .i64 0, .int .i64 0, .int .i64 0, .slice none 0 0]

/-- Asks, known by their cells. -/
abbrev SlN (w : World) (v : Value) (l : List (Int × Int)) (own : Option Nat) : Prop := Sl w 102 2 v l.length (pairCells l) own
theorem Sl.one {w : World} {E size : Nat} {v : Value} {n : Nat} {cs : List Value} {own : Option Nat} (h : Sl w E size v n cs own) : v.oneCell' = true := by
  obtain ⟨a, c, rfl⟩ := h.form
  rfl

set_option maxRecDepth 100000 in
set_option maxHeartbeats 1000000 in
theorem refHoldsN (s : NS) (v : Value) (w : World) :
    Calls Try.prog 28 #[.agg (nodeC s v).toArray] w fun e w' => e = .returned (.bool (decide (s.now < s.end_))) ∧ Frm w.heap.size [] w w' := by
  go_enter Try.func28, Try.ntmps28
  iterate 10 go_step
  refine named ?_; intro W hW
  have hb : Blk W w.heap.size 39 (nodeC s v) := by rw [hW]; exact Blk.new w 39 (nodeC s v)
  have hf : Frm w.heap.size [] w W := by rw [hW]; repeat (first | with_reducible exact Frm.refl _ _ _ | with_reducible refine Frm.drewN ?_ | with_reducible refine Frm.drew ?_ | ((with_reducible refine Frm.setCell' ?_ ?_); · first | (left; simp; done) | (right; simp; done) | (right; simp; omega)) | ((with_reducible refine Frm.alloc' ?_ ?_); · first | exact Nat.le_refl _ | (simp; done) | (simp; omega)))
  clear hW
  have c2 : W.cell? ⟨w.heap.size, 2, none⟩ = some (.int .i64 s.now) := hb.cell 2
  have c4 : W.cell? ⟨w.heap.size, 4, none⟩ = some (.int .i64 s.end_) := hb.cell 4
  have HB := Lib.hid hb
  have HF := Lib.hid hf
  clear hf hb
  go_wp2_with fail
  go_ret
  exact ⟨rfl, HF.out⟩

set_option maxRecDepth 100000 in
set_option maxHeartbeats 1000000 in
theorem refFall_any (s : NS) (v : Value) (w : World) (hv : v.oneCell' = true) :
    Calls Try.prog 22 #[.agg (nodeC s v).toArray] w fun e w' => e = .returned (.agg (nodeC s.fall (.slice none 0 0)).toArray) ∧ Frm w.heap.size [] w w' := by
  go_enter Try.func22, Try.ntmps22
  iterate 10 go_step
  refine named ?_; intro W hW
  have hb : Blk W w.heap.size 39 (nodeC s v) := by rw [hW]; repeat (first | exact Blk.new w 39 (nodeC s v) | refine Blk.alloc' ?_)
  have hz : Blk W (w.heap.size + 1) 39 zero39 := by rw [hW]; repeat (first | exact Blk.new' _ 39 zero39 (by simp) | refine Blk.alloc' ?_)
  have hf : Frm w.heap.size [] w W := by rw [hW]; repeat (first | with_reducible exact Frm.refl _ _ _ | with_reducible refine Frm.drewN ?_ | with_reducible refine Frm.drew ?_ | ((with_reducible refine Frm.setCell' ?_ ?_); · first | (left; simp; done) | (right; simp; done) | (right; simp; omega)) | ((with_reducible refine Frm.alloc' ?_ ?_); · first | exact Nat.le_refl _ | (simp; done) | (simp; omega)))
  clear hW
  have c2 : W.cell? ⟨w.heap.size, 2, none⟩ = some (.int .i64 s.now) := hb.cell 2
  have c4 : W.cell? ⟨w.heap.size, 4, none⟩ = some (.int .i64 s.end_) := hb.cell 4
  have c5 : W.cell? ⟨w.heap.size, 5, none⟩ = some v := hb.cell 5
  have f4 := hb.free 4
  have f5 := hb.free 5
  have HB := Lib.hid hb
  have HZ := Lib.hid hz
  have HF := Lib.hid hf
  clear hf hz hb
  go_wp2_with (first
    | (with_reducible refine atLoad 39 rfl ?_; refine wpList_loadB (ty := 39) rfl rfl (show Blk _ _ 39 (nodeC s.fall (.slice none 0 0)) from (HB.out.set 4 _).set 5 _) rfl Try.underlying39 rfl (nodeC_info _ _) ?_)
    | (with_reducible refine atStore 39 rfl ?_; refine wpList_storeB (ty := 39) rfl rfl (b := w.heap.size + 1) (T := 39) (old := zero39) (cs := nodeC s.fall (.slice none 0 0)) ?_ rfl rfl rfl (nodeC_info _ _) (nodeC_one _ rfl) ?_; (· (repeat (first | with_reducible exact HZ.out | with_reducible refine Blk.drewN ?_ | with_reducible refine Blk.drew ?_ | with_reducible refine Blk.alloc' ?_ | ((with_reducible refine Blk.other' ?_ ?_); · (simp; try omega)) | ((with_reducible refine Blk.rowO ?_ ?_); · (simp; try omega)) | exact HZ.out)))))
  try simp only [Exit.inBlock, Exit.then]
  refine bodyPost_ret (v := .agg (nodeC s.fall (.slice none 0 0)).toArray) ?_ rfl ⟨rfl, ?_⟩
  · exact results_c rfl (cs := nodeC s.fall (.slice none 0 0)) (Blk.row (T := 39) (old := zero39) (by (repeat (first | with_reducible exact HZ.out | with_reducible refine Blk.drewN ?_ | with_reducible refine Blk.drew ?_ | with_reducible refine Blk.alloc' ?_ | ((with_reducible refine Blk.other' ?_ ?_); · (simp; try omega)) | ((with_reducible refine Blk.rowO ?_ ?_); · (simp; try omega)) | exact HZ.out))) _) rfl Try.underlying39 rfl (nodeC_info _ _)
  · refine HF.out.trans ?_
    repeat (first | with_reducible exact Frm.refl _ _ _ | with_reducible refine Frm.drewN ?_ | with_reducible refine Frm.drew ?_ | ((with_reducible refine Frm.setCell' ?_ ?_); · first | (left; simp; done) | (right; simp; done) | (right; simp; omega)) | ((with_reducible refine Frm.setRow' ?_ ?_); · first | (left; simp; done) | (right; simp; done) | (right; simp; omega)) | ((with_reducible refine Frm.alloc' ?_ ?_); · first | exact Nat.le_refl _ | (simp; done) | (simp; omega)))

set_option maxRecDepth 100000 in
set_option maxHeartbeats 2000000 in
theorem refReturn_no (s : NS) (v : Value) (w : World) (hv : v.oneCell' = true) (h0 : s.last = 0) :
    Calls Try.prog 24 #[.agg (nodeC s v).toArray] w fun e w' => e = .returned (.tuple #[.agg (nodeC s v).toArray, .agg (wordL (0, 0, 0)).toArray, .int .i64 9]) ∧ Frm w.heap.size [] w w' := by
  go_enter Try.func24, Try.ntmps24
  iterate 16 go_step
  refine named ?_; intro W hW
  have hb : Blk W w.heap.size 39 (nodeC s v) := by rw [hW]; repeat (first | exact Blk.new w 39 (nodeC s v) | refine Blk.alloc' ?_)
  have hz : Blk W (w.heap.size + 1) 39 zero39 := by rw [hW]; repeat (first | exact Blk.new' _ 39 zero39 (by simp) | refine Blk.alloc' ?_)
  have hy : Blk W (w.heap.size + 2) 41 (wordL (0, 0, 0)) := by rw [hW]; repeat (first | exact Blk.new' _ 41 (wordL (0, 0, 0)) (by simp) | refine Blk.alloc' ?_)
  have hf : Frm w.heap.size [] w W := by rw [hW]; repeat (first | with_reducible exact Frm.refl _ _ _ | with_reducible refine Frm.drewN ?_ | with_reducible refine Frm.drew ?_ | ((with_reducible refine Frm.setCell' ?_ ?_); · first | (left; simp; done) | (right; simp; done) | (right; simp; omega)) | ((with_reducible refine Frm.alloc' ?_ ?_); · first | exact Nat.le_refl _ | (simp; done) | (simp; omega)))
  clear hW
  have c3 : W.cell? ⟨w.heap.size, 3, none⟩ = some (.int .i64 s.last) := hb.cell 3
  have HB := Lib.hid hb
  have HZ := Lib.hid hz
  have HF := Lib.hid hf
  have HY := Lib.hid hy
  clear hy hf hz hb
  go_wp2_with (first
    | (with_reducible refine atLoad 39 rfl ?_; refine wpList_loadB (ty := 39) rfl rfl HB.out rfl Try.underlying39 rfl (nodeC_info _ _) ?_)
    | (with_reducible refine atStore 39 rfl ?_; refine wpList_storeB (ty := 39) rfl rfl (b := w.heap.size + 1) (T := 39) (old := zero39) (cs := nodeC s v) ?_ rfl rfl rfl (nodeC_info _ _) (nodeC_one _ hv) ?_; (· (repeat (first | with_reducible exact HZ.out | with_reducible refine Blk.drewN ?_ | with_reducible refine Blk.drew ?_ | with_reducible refine Blk.alloc' ?_ | ((with_reducible refine Blk.other' ?_ ?_); · (simp; try omega)) | ((with_reducible refine Blk.rowO ?_ ?_); · (simp; try omega)) | exact HZ.out))))
    | (with_reducible refine atStore 41 rfl ?_; refine wpList_storeB (P := Try.prog) (ty := 41) (cs := wordL (0, 0, 0)) rfl rfl (b := w.heap.size + 2) (T := 41) (old := wordL (0, 0, 0)) ?_ rfl rfl rfl (wordL_info _) (wordL_one _) ?_; (· (repeat (first | with_reducible exact HY.out | with_reducible refine Blk.drewN ?_ | with_reducible refine Blk.drew ?_ | with_reducible refine Blk.alloc' ?_ | ((with_reducible refine Blk.other' ?_ ?_); · (simp; try omega)) | ((with_reducible refine Blk.rowO ?_ ?_); · (simp; try omega)) | exact HY.out)))))
  try simp only [Exit.inBlock, Exit.then]
  refine bodyPost_ret (v := .tuple #[.agg (nodeC s v).toArray, .agg (wordL (0, 0, 0)).toArray, .int .i64 9]) ?_ rfl ⟨rfl, ?_⟩
  · refine results_cct Try.results24 (cs := nodeC s v) (cs2 := wordL (0, 0, 0)) (Blk.rowO (by simp) (Blk.row (T := 39) (old := zero39) (by (repeat (first | with_reducible exact HZ.out | with_reducible refine Blk.drewN ?_ | with_reducible refine Blk.drew ?_ | with_reducible refine Blk.alloc' ?_ | ((with_reducible refine Blk.other' ?_ ?_); · (simp; try omega)) | ((with_reducible refine Blk.rowO ?_ ?_); · (simp; try omega)) | exact HZ.out))) _)) rfl Try.underlying39 rfl (nodeC_info _ _) (Blk.row (T := 41) (old := wordL (0, 0, 0)) (by (repeat (first | with_reducible exact HY.out | with_reducible refine Blk.drewN ?_ | with_reducible refine Blk.drew ?_ | with_reducible refine Blk.alloc' ?_ | ((with_reducible refine Blk.other' ?_ ?_); · (simp; try omega)) | ((with_reducible refine Blk.rowO ?_ ?_); · (simp; try omega)) | exact HY.out))) _) rfl Try.underlying41 rfl (wordL_info _)
  · refine HF.out.trans ?_
    repeat (first | with_reducible exact Frm.refl _ _ _ | with_reducible refine Frm.drewN ?_ | with_reducible refine Frm.drew ?_ | ((with_reducible refine Frm.setCell' ?_ ?_); · first | (left; simp; done) | (right; simp; done) | (right; simp; omega)) | ((with_reducible refine Frm.setRow' ?_ ?_); · first | (left; simp; done) | (right; simp; done) | (right; simp; omega)) | ((with_reducible refine Frm.alloc' ?_ ?_); · first | exact Nat.le_refl _ | (simp; done) | (simp; omega)))

/-- What stands while a result is laid. -/
structure Laying (w W : World) (s : NS) (v : Value) : Prop where
  b : Blk W w.heap.size 39 (nodeC s v)
  f : Frm w.heap.size [] w W
  z : ∃ zs, zs.length = 6 ∧ Blk W (w.heap.size + 1) 39 zs
  y : ∃ ys, ys.length = 3 ∧ Blk W (w.heap.size + 2) 41 ys
  n : w.heap.size + 3 ≤ W.heap.size
theorem Laying.turn {w W W' : World} {s : NS} {v : Value} (h : Laying w W s v) (hf : Frm W.heap.size [] W W') : Laying w W' s v := by
  obtain ⟨zs, hz, hz'⟩ := h.z
  obtain ⟨ys, hy, hy'⟩ := h.y
  exact ⟨hf.blk h.b h.b.lt (by simp), h.f.call hf h.f.size (by simp), ⟨zs, hz, hf.blk hz' hz'.lt (by simp)⟩, ⟨ys, hy, hf.blk hy' hy'.lt (by simp)⟩, Nat.le_trans h.n hf.size⟩
theorem Laying.row1 {w W : World} {s : NS} {v : Value} (h : Laying w W s v) (cs : List Value) (hl : cs.length = 6) : Laying w (W.setRow (w.heap.size + 1) cs.toArray) s v := by
  obtain ⟨zs, hz, hz'⟩ := h.z
  obtain ⟨ys, hy, hy'⟩ := h.y
  exact ⟨Blk.rowO (by omega) h.b, h.f.setRow (.inr (by omega)) _, ⟨cs, hl, hz'.row cs⟩, ⟨ys, hy, Blk.rowO (by omega) hy'⟩, by rw [setRow_size]; exact h.n⟩
theorem Laying.row2 {w W : World} {s : NS} {v : Value} (h : Laying w W s v) (cs : List Value) (hl : cs.length = 3) : Laying w (W.setRow (w.heap.size + 2) cs.toArray) s v := by
  obtain ⟨zs, hz, hz'⟩ := h.z
  obtain ⟨ys, hy, hy'⟩ := h.y
  exact ⟨Blk.rowO (by omega) h.b, h.f.setRow (.inr (by omega)) _, ⟨zs, hz, Blk.rowO (by omega) hz'⟩, ⟨cs, hl, hy'.row cs⟩, by rw [setRow_size]; exact h.n⟩

set_option maxRecDepth 100000 in
set_option maxHeartbeats 4000000 in
theorem refReturn_yes (s : NS) (v : Value) (w : World) (hv : v.oneCell' = true) (h0 : ¬ s.last = 0) :
    Calls Try.prog 24 #[.agg (nodeC s v).toArray] w fun e w' => e = .returned (.tuple #[.agg (nodeC s.fall (.slice none 0 0)).toArray, .agg (wordL (3, s.number, s.last)).toArray, .int .i64 0]) ∧ Frm w.heap.size [] w w' := by
  go_enter Try.func24, Try.ntmps24
  iterate 16 go_step
  refine named ?_; intro W hW
  have hb : Blk W w.heap.size 39 (nodeC s v) := by rw [hW]; repeat (first | exact Blk.new w 39 (nodeC s v) | refine Blk.alloc' ?_)
  have hz : Blk W (w.heap.size + 1) 39 zero39 := by rw [hW]; repeat (first | exact Blk.new' _ 39 zero39 (by simp) | refine Blk.alloc' ?_)
  have hy : Blk W (w.heap.size + 2) 41 (wordL (0, 0, 0)) := by rw [hW]; repeat (first | exact Blk.new' _ 41 (wordL (0, 0, 0)) (by simp) | refine Blk.alloc' ?_)
  have hf : Frm w.heap.size [] w W := by rw [hW]; repeat (first | with_reducible exact Frm.refl _ _ _ | with_reducible refine Frm.drewN ?_ | with_reducible refine Frm.drew ?_ | ((with_reducible refine Frm.setCell' ?_ ?_); · first | (left; simp; done) | (right; simp; done) | (right; simp; omega)) | ((with_reducible refine Frm.alloc' ?_ ?_); · first | exact Nat.le_refl _ | (simp; done) | (simp; omega)))
  have hs : w.heap.size + 3 ≤ W.heap.size := by rw [hW]; simp
  clear hW
  have c3 : W.cell? ⟨w.heap.size, 3, none⟩ = some (.int .i64 s.last) := hb.cell 3
  have h : Laying w W s v := ⟨hb, hf, ⟨_, rfl, hz⟩, ⟨_, rfl, hy⟩, hs⟩
  have H := Lib.hid h
  clear h
  clear hb hz hy hf hs
  go_wp2_with fail
  refine wp_region_leftL (fun W => Laying w W s v) 100 (by kernel_rfl) ?_
  have h1 := H.out.turn (W' := W.drew) (Frm.refl _ _ W).drew
  have H1 := Lib.hid h1
  clear h1
  clear H c3
  refine LeftL.take 0 rfl (by kernel_rfl) (fun _ _ d _ _ h => by cases d <;> exact h) (yields_loadB (ty := 39) rfl rfl (fun W hW => hW.b) rfl Try.underlying39 rfl (nodeC_info _ _)) H1.out ?_; (intro K' hK'; go_simp; refine hK' _ ?_; clear hK' K')
  refine LeftL.run (v := ?_) 2 rfl (by kernel_rfl) rfl (fun _ _ d _ _ h => by cases d <;> exact h) ?_ H1.out ?_; rotate_left; (· intro W hW; have z0 := hW.b.cell 0; have z2 := hW.b.cell 2; have z3 := hW.b.cell 3; have z5 := hW.b.cell 5; simp only [nodeC, List.getElem?_cons_succ, List.getElem?_cons_zero] at z0 z2 z3 z5; clear hW; go_simp; rfl); (intro K' hK'; go_simp; refine hK' _ ?_; clear hK' K')
  refine LeftL.run (v := ?_) 3 rfl (by kernel_rfl) rfl (fun _ _ d _ _ h => by cases d <;> exact h) ?_ H1.out ?_; rotate_left; (· intro W hW; have z0 := hW.b.cell 0; have z2 := hW.b.cell 2; have z3 := hW.b.cell 3; have z5 := hW.b.cell 5; simp only [nodeC, List.getElem?_cons_succ, List.getElem?_cons_zero] at z0 z2 z3 z5; clear hW; go_simp; rfl); (intro K' hK'; go_simp; refine hK' _ ?_; clear hK' K')
  refine LeftL.run (v := ?_) 4 rfl (by kernel_rfl) rfl (fun _ _ d _ _ h => by cases d <;> exact h) ?_ H1.out ?_; rotate_left; (· intro W hW; have z0 := hW.b.cell 0; have z2 := hW.b.cell 2; have z3 := hW.b.cell 3; have z5 := hW.b.cell 5; simp only [nodeC, List.getElem?_cons_succ, List.getElem?_cons_zero] at z0 z2 z3 z5; clear hW; go_simp; rfl); (intro K' hK'; go_simp; refine hK' _ ?_; clear hK' K')
  refine LeftL.run (v := ?_) 5 rfl (by kernel_rfl) rfl (fun _ _ d _ _ h => by cases d <;> exact h) ?_ H1.out ?_; rotate_left; (· intro W hW; have z0 := hW.b.cell 0; have z2 := hW.b.cell 2; have z3 := hW.b.cell 3; have z5 := hW.b.cell 5; simp only [nodeC, List.getElem?_cons_succ, List.getElem?_cons_zero] at z0 z2 z3 z5; clear hW; go_simp; rfl); (intro K' hK'; go_simp; refine hK' _ ?_; clear hK' K')
  refine LeftL.run (v := ?_) 6 rfl (by kernel_rfl) rfl (fun _ _ d _ _ h => by cases d <;> exact h) ?_ H1.out ?_; rotate_left; (· intro W hW; have z0 := hW.b.cell 0; have z2 := hW.b.cell 2; have z3 := hW.b.cell 3; have z5 := hW.b.cell 5; simp only [nodeC, List.getElem?_cons_succ, List.getElem?_cons_zero] at z0 z2 z3 z5; clear hW; go_simp; rfl); (intro K' hK'; go_simp; refine hK' _ ?_; clear hK' K')
  refine LeftL.one 1 rfl (by kernel_rfl) ?_
  go_wp2_with fail
  refine (refFall_any s v _ hv).mono ?_; rintro e w2 ⟨rfl, hf2⟩
  have h2 := H1.out.turn hf2
  have H2 := Lib.hid h2
  clear h2
  clear hf2 H1
  go_wp2_with fail
  refine ⟨fun _ => H2.out, ?_⟩
  refine LeftL.one 7 rfl (by kernel_rfl) ?_
  obtain ⟨zs, hz1, hz⟩ := H2.out.z
  refine wpList_storeB (ty := 39) (cs := nodeC s.fall (.slice none 0 0)) rfl rfl hz rfl rfl hz1 (nodeC_info _ _) (nodeC_one _ rfl) ?_
  refine wpList_nil ?_
  have h3 := H2.out.row1 (nodeC s.fall (.slice none 0 0)) rfl
  refine ⟨fun _ => h3, ?_⟩
  refine LeftL.one 8 rfl (by kernel_rfl) ?_
  obtain ⟨ys, hy1, hy⟩ := h3.y
  refine wpList_storeB (P := Try.prog) (ty := 41) (cs := wordL (3, s.number, s.last)) rfl rfl hy rfl rfl hy1 (wordL_info _) (wordL_one _) ?_
  refine wpList_nil ?_
  have h4 := h3.row2 (wordL (3, s.number, s.last)) rfl
  refine ⟨fun _ => h4, ?_⟩
  refine LeftL.one 9 rfl (by kernel_rfl) ?_
  iterate 4 go_step
  refine ⟨fun _ => h4, ?_⟩
  refine LeftL.done (by kernel_rfl) ?_
  have r1 := (Blk.rowO (g := w.heap.size + 2) (cs := (wordL (3, s.number, s.last)).toArray) (by omega) (hz.row (nodeC s.fall (.slice none 0 0))))
  have r2 := hy.row (wordL (3, s.number, s.last))
  have hf := h4.f
  have R1 := Lib.hid r1
  have R2 := Lib.hid r2
  have HF := Lib.hid hf
  clear hf r2 r1
  clear h3 h4 hy hz H2
  go_wp2
  try simp only [Exit.inBlock, Exit.then]
  refine bodyPost_ret (v := .tuple #[.agg (nodeC s.fall (.slice none 0 0)).toArray, .agg (wordL (3, s.number, s.last)).toArray, .int .i64 0]) ?_ rfl ⟨rfl, HF.out⟩
  exact results_cct Try.results24 R1.out rfl Try.underlying39 rfl (nodeC_info _ _) R2.out rfl Try.underlying41 rfl (wordL_info _)
end Go.Proofs.Ythmladcepkdheaa
