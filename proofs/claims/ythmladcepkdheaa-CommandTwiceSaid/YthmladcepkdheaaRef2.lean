/-
  The document's centre: what it hears.
-/
import Derived.Test.YthmladcepkdheaaRef
namespace Go.Proofs.Ythmladcepkdheaa
open Go.RowKit

/-- The greatest numbers. -/
def RS.g (r : RS) : List Int := [r.g0, r.g1, r.g2, r.g3, r.g4, r.g5, r.g6, r.g7, r.g8]
def RS.setG (r : RS) (n : Nat) (v : Int) : RS :=
  { r with
    g0 := if n = 0 then v else r.g0
    g1 := if n = 1 then v else r.g1
    g2 := if n = 2 then v else r.g2
    g3 := if n = 3 then v else r.g3
    g4 := if n = 4 then v else r.g4
    g5 := if n = 5 then v else r.g5
    g6 := if n = 6 then v else r.g6
    g7 := if n = 7 then v else r.g7
    g8 := if n = 8 then v else r.g8 }
theorem RS.setG_g (r : RS) (n : Nat) (v : Int) (hn : n ≤ 8) : (r.setG n v).g = r.g.set n v := by
  match n, hn with
  | 0, _ | 1, _ | 2, _ | 3, _ | 4, _ | 5, _ | 6, _ | 7, _ | 8, _ => rfl
theorem RS.setG_cells (r : RS) (n : Nat) (v : Int) (hn : n ≤ 8) : r.cells.set (5 + n) (.int .i64 v) = (r.setG n v).cells := by
  match n, hn with
  | 0, _ | 1, _ | 2, _ | 3, _ | 4, _ | 5, _ | 6, _ | 7, _ | 8, _ => rfl
theorem RS.cells_g (r : RS) (n : Nat) (hn : n ≤ 8) : r.cells[5 + n]? = some (.int .i64 (r.g[n]?.getD 0)) := by
  match n, hn with
  | 0, _ | 1, _ | 2, _ | 3, _ | 4, _ | 5, _ | 6, _ | 7, _ | 8, _ => rfl

/-- What 'Hear' makes of the document's centre, and answers to a valid word of a node that there is. -/
def RS.hear (r : RS) (k : Int) (n : Nat) (m : Int) : RS × (Int × Int × Int) :=
  if k = 2 then (r, (0, 0, 0))
  else if k = 3 then (if r.lease = n ∧ r.number ≤ m then { r.setG n (max (r.g[n]?.getD 0) m) with lease := 0 } else r.setG n (max (r.g[n]?.getD 0) m), (0, 0, 0))
  else if m ≤ r.g[n]?.getD 0 then (r.setG n (max (r.g[n]?.getD 0) m), (0, 0, 0))
  else if (n : Int) = r.wanted ∧ (r.lease = 0 ∨ r.lease = n) then ({ r.setG n (max (r.g[n]?.getD 0) m) with lease := n, number := m, since := r.now }, (2, n, m))
  else (r.setG n (max (r.g[n]?.getD 0) m), (0, 0, 0))

abbrev wordC (x : Int × Int × Int) : List Value := [.int .i64 x.1, .int .i64 x.2.1, .int .i64 x.2.2]
abbrev hearV (s : RS) (x : Int × Int × Int) (e : Int) : Value := .tuple #[s.val, .agg (wordC x).toArray, .int .i64 e]
theorem info41 : (Try.prog.info? 41).map (fun i => i.size) = some 3 := by kernel_rfl
theorem word_info (x : Int × Int × Int) : (Try.prog.info? 41).map (fun i => i.size) = some (wordC x).length := info41
theorem word_one (x : Int × Int × Int) : ∀ v ∈ wordC x, v.oneCell' = true := by simp [wordC, Value.oneCell']

set_option maxRecDepth 100000 in
set_option maxHeartbeats 2000000 in
theorem refHear_arg (r : RS) (k n m : Int) (w : World) (hv : wordB k n m = false) :
    Calls Try.prog 32 #[r.val, .agg (wordC (k, n, m)).toArray] w fun e w' => e = .returned (hearV r (0, 0, 0) 2) ∧ Frm w.heap.size [] w w' := by
  have HV := Lib.hid hv
  clear hv
  go_enter Try.func32, Try.ntmps32
  iterate 19 go_step
  refine named ?_; intro W hW
  have hb : Box W w.heap.size r := by rw [hW]; repeat (first | exact Blk.new w 59 r.cells | refine Blk.alloc' ?_)
  have hx : Blk W (w.heap.size + 1) 41 [.int .i64 k, .int .i64 n, .int .i64 m] := by rw [hW]; repeat (first | exact Blk.new' _ 41 [.int .i64 k, .int .i64 n, .int .i64 m] (by simp) | refine Blk.alloc' ?_)
  obtain ⟨zs, hz1, hz⟩ : ∃ zs, zs.length = 17 ∧ Blk W (w.heap.size + 2) 59 zs := ⟨zero59, rfl, by rw [hW]; repeat (first | exact Blk.new' _ 59 zero59 (by simp) | refine Blk.alloc' ?_)⟩
  have hy : Blk W (w.heap.size + 3) 41 [.int .i64 0, .int .i64 0, .int .i64 0] := by rw [hW]; exact Blk.new' _ 41 [.int .i64 0, .int .i64 0, .int .i64 0] (by simp)
  have hf : Frm w.heap.size [] w W := by rw [hW]; repeat (first | with_reducible exact Frm.refl _ _ _ | with_reducible refine Frm.drewN ?_ | with_reducible refine Frm.drew ?_ | ((with_reducible refine Frm.setCell' ?_ ?_); · first | (left; simp; done) | (right; simp; done) | (right; simp; omega)) | ((with_reducible refine Frm.alloc' ?_ ?_); · first | exact Nat.le_refl _ | (simp; done) | (simp; omega)))
  have hs : W.heap.size = w.heap.size + 4 := by rw [hW]; simp
  clear hW
  have x0 := hx.cell 0
  have x1 := hx.cell 1
  have x2 := hx.cell 2
  simp only [List.getElem?_cons_succ, List.getElem?_cons_zero] at x0 x1 x2
  have HB := Lib.hid hb
  have HX := Lib.hid hx
  have HZ := Lib.hid hz
  have HY := Lib.hid hy
  have HF := Lib.hid hf
  have HS := Lib.hid hs
  clear hb hx hz hy hf hs
  go_wp2_with fail
  refine (refWord_frm _ _ _ _).mono ?_; rintro e w1 ⟨rfl, hf1⟩; rw [HV.out]
  clear x0 x1 x2
  have q0 := HS.out
  have hb : Box w1 w.heap.size r := hf1.blk HB.out (by omega) (by simp)
  have hx : Blk w1 (w.heap.size + 1) 41 [.int .i64 k, .int .i64 n, .int .i64 m] := hf1.blk HX.out (by omega) (by simp)
  have hz : Blk w1 (w.heap.size + 2) 59 zs := hf1.blk HZ.out (by omega) (by simp)
  have hy : Blk w1 (w.heap.size + 3) 41 [.int .i64 0, .int .i64 0, .int .i64 0] := hf1.blk HY.out (by omega) (by simp)
  have hf : Frm w.heap.size [] w w1 := HF.out.call hf1 (by omega) (by simp)
  clear hf1 q0 HB HX HZ HY HF HS
  have x0 := hx.cell 0
  have x1 := hx.cell 1
  have x2 := hx.cell 2
  simp only [List.getElem?_cons_succ, List.getElem?_cons_zero] at x0 x1 x2
  have HB := Lib.hid hb
  have HX := Lib.hid hx
  have HZ := Lib.hid hz
  have HY := Lib.hid hy
  have HF := Lib.hid hf
  clear hf hy hz hx hb
  go_wp2_with (first
    | (with_reducible refine atLoad 59 rfl ?_; refine wpList_loadB (ty := 59) rfl rfl HB.out rfl Try.underlying59 rfl (RS.info _) ?_)
    | (with_reducible refine atStore 59 rfl ?_; refine wpList_storeB (ty := 59) rfl rfl (b := w.heap.size + 2) (T := 59) (old := zs) ?_ rfl rfl (hz1.trans (RS.len _).symm) (RS.info _) (RS.one _) ?_; (· (repeat (first | with_reducible exact HZ.out | with_reducible refine Blk.drewN ?_ | with_reducible refine Blk.drew ?_ | with_reducible refine Blk.alloc' ?_ | ((with_reducible refine Blk.other' ?_ ?_); · (simp; try omega)) | ((with_reducible refine Blk.rowO ?_ ?_); · (simp; try omega)) | exact HZ.out))))
    | (with_reducible refine atStore 41 rfl ?_; refine wpList_storeB (P := Try.prog) (ty := 41) (cs := wordC (0, 0, 0)) rfl rfl (b := w.heap.size + 3) (T := 41) (old := wordC (0, 0, 0)) ?_ rfl rfl rfl (word_info _) (word_one _) ?_; (· (repeat (first | with_reducible exact HY.out | with_reducible refine Blk.drewN ?_ | with_reducible refine Blk.drew ?_ | with_reducible refine Blk.alloc' ?_ | ((with_reducible refine Blk.other' ?_ ?_); · (simp; try omega)) | ((with_reducible refine Blk.rowO ?_ ?_); · (simp; try omega)) | exact HY.out)))))
  try simp only [Exit.inBlock, Exit.then]
  refine bodyPost_ret (v := hearV r (0, 0, 0) 2) ?_ rfl ⟨rfl, ?_⟩
  · refine results_cct Try.results32 (cs := RS.cells r) (cs2 := wordC (0, 0, 0)) (Blk.rowO (by simp) (Blk.row (T := 59) (old := zs) (by (repeat (first | with_reducible exact HZ.out | with_reducible refine Blk.drewN ?_ | with_reducible refine Blk.drew ?_ | with_reducible refine Blk.alloc' ?_ | ((with_reducible refine Blk.other' ?_ ?_); · (simp; try omega)) | ((with_reducible refine Blk.rowO ?_ ?_); · (simp; try omega)) | exact HZ.out))) _)) rfl Try.underlying59 rfl (RS.info _) (Blk.row (T := 41) (old := wordC (0, 0, 0)) (by (repeat (first | with_reducible exact HY.out | with_reducible refine Blk.drewN ?_ | with_reducible refine Blk.drew ?_ | with_reducible refine Blk.alloc' ?_ | ((with_reducible refine Blk.other' ?_ ?_); · (simp; try omega)) | ((with_reducible refine Blk.rowO ?_ ?_); · (simp; try omega)) | exact HY.out))) _) rfl Try.underlying41 rfl (word_info _)
  · refine HF.out.trans ?_
    repeat (first | with_reducible exact Frm.refl _ _ _ | with_reducible refine Frm.drewN ?_ | with_reducible refine Frm.drew ?_ | ((with_reducible refine Frm.setCell' ?_ ?_); · first | (left; simp; done) | (right; simp; done) | (right; simp; omega)) | ((with_reducible refine Frm.setRow' ?_ ?_); · first | (left; simp; done) | (right; simp; done) | (right; simp; omega)) | ((with_reducible refine Frm.alloc' ?_ ?_); · first | exact Nat.le_refl _ | (simp; done) | (simp; omega)))

set_option maxRecDepth 100000 in
set_option maxHeartbeats 2000000 in
theorem refHear_none (r : RS) (k n m : Int) (w : World) (hv : wordB k n m = true) (hn : r.nodes < n) :
    Calls Try.prog 32 #[r.val, .agg (wordC (k, n, m)).toArray] w fun e w' => e = .returned (hearV r (0, 0, 0) 7) ∧ Frm w.heap.size [] w w' := by
  have HV := Lib.hid hv
  clear hv
  go_enter Try.func32, Try.ntmps32
  iterate 19 go_step
  refine named ?_; intro W hW
  have hb : Box W w.heap.size r := by rw [hW]; repeat (first | exact Blk.new w 59 r.cells | refine Blk.alloc' ?_)
  have hx : Blk W (w.heap.size + 1) 41 [.int .i64 k, .int .i64 n, .int .i64 m] := by rw [hW]; repeat (first | exact Blk.new' _ 41 [.int .i64 k, .int .i64 n, .int .i64 m] (by simp) | refine Blk.alloc' ?_)
  obtain ⟨zs, hz1, hz⟩ : ∃ zs, zs.length = 17 ∧ Blk W (w.heap.size + 2) 59 zs := ⟨zero59, rfl, by rw [hW]; repeat (first | exact Blk.new' _ 59 zero59 (by simp) | refine Blk.alloc' ?_)⟩
  have hy : Blk W (w.heap.size + 3) 41 [.int .i64 0, .int .i64 0, .int .i64 0] := by rw [hW]; exact Blk.new' _ 41 [.int .i64 0, .int .i64 0, .int .i64 0] (by simp)
  have hf : Frm w.heap.size [] w W := by rw [hW]; repeat (first | with_reducible exact Frm.refl _ _ _ | with_reducible refine Frm.drewN ?_ | with_reducible refine Frm.drew ?_ | ((with_reducible refine Frm.setCell' ?_ ?_); · first | (left; simp; done) | (right; simp; done) | (right; simp; omega)) | ((with_reducible refine Frm.alloc' ?_ ?_); · first | exact Nat.le_refl _ | (simp; done) | (simp; omega)))
  have hs : W.heap.size = w.heap.size + 4 := by rw [hW]; simp
  clear hW
  have x0 := hx.cell 0
  have x1 := hx.cell 1
  have x2 := hx.cell 2
  simp only [List.getElem?_cons_succ, List.getElem?_cons_zero] at x0 x1 x2
  have HB := Lib.hid hb
  have HX := Lib.hid hx
  have HZ := Lib.hid hz
  have HY := Lib.hid hy
  have HF := Lib.hid hf
  have HS := Lib.hid hs
  clear hb hx hz hy hf hs
  go_wp2_with fail
  refine (refWord_frm _ _ _ _).mono ?_; rintro e w1 ⟨rfl, hf1⟩; rw [HV.out]
  clear x0 x1 x2
  have q0 := HS.out
  have hb : Box w1 w.heap.size r := hf1.blk HB.out (by omega) (by simp)
  have hx : Blk w1 (w.heap.size + 1) 41 [.int .i64 k, .int .i64 n, .int .i64 m] := hf1.blk HX.out (by omega) (by simp)
  have hz : Blk w1 (w.heap.size + 2) 59 zs := hf1.blk HZ.out (by omega) (by simp)
  have hy : Blk w1 (w.heap.size + 3) 41 [.int .i64 0, .int .i64 0, .int .i64 0] := hf1.blk HY.out (by omega) (by simp)
  have hf : Frm w.heap.size [] w w1 := HF.out.call hf1 (by omega) (by simp)
  clear hf1 q0 HB HX HZ HY HF HS
  have x0 := hx.cell 0
  have x1 := hx.cell 1
  have x2 := hx.cell 2
  simp only [List.getElem?_cons_succ, List.getElem?_cons_zero] at x0 x1 x2
  have c0 : w1.cell? ⟨w.heap.size, 0, none⟩ = some (.int .i64 r.nodes) := hb.cell 0
  have f0 := hb.free 0
  have HB := Lib.hid hb
  have HX := Lib.hid hx
  have HZ := Lib.hid hz
  have HY := Lib.hid hy
  have HF := Lib.hid hf
  clear hf hy hz hx hb
  go_wp2_with (first
    | (with_reducible refine atLoad 59 rfl ?_; refine wpList_loadB (ty := 59) rfl rfl HB.out rfl Try.underlying59 rfl (RS.info _) ?_)
    | (with_reducible refine atStore 59 rfl ?_; refine wpList_storeB (ty := 59) rfl rfl (b := w.heap.size + 2) (T := 59) (old := zs) ?_ rfl rfl (hz1.trans (RS.len _).symm) (RS.info _) (RS.one _) ?_; (· (repeat (first | with_reducible exact HZ.out | with_reducible refine Blk.drewN ?_ | with_reducible refine Blk.drew ?_ | with_reducible refine Blk.alloc' ?_ | ((with_reducible refine Blk.other' ?_ ?_); · (simp; try omega)) | ((with_reducible refine Blk.rowO ?_ ?_); · (simp; try omega)) | exact HZ.out))))
    | (with_reducible refine atStore 41 rfl ?_; refine wpList_storeB (P := Try.prog) (ty := 41) (cs := wordC (0, 0, 0)) rfl rfl (b := w.heap.size + 3) (T := 41) (old := wordC (0, 0, 0)) ?_ rfl rfl rfl (word_info _) (word_one _) ?_; (· (repeat (first | with_reducible exact HY.out | with_reducible refine Blk.drewN ?_ | with_reducible refine Blk.drew ?_ | with_reducible refine Blk.alloc' ?_ | ((with_reducible refine Blk.other' ?_ ?_); · (simp; try omega)) | ((with_reducible refine Blk.rowO ?_ ?_); · (simp; try omega)) | exact HY.out)))))
  try simp only [Exit.inBlock, Exit.then]
  refine bodyPost_ret (v := hearV r (0, 0, 0) 7) ?_ rfl ⟨rfl, ?_⟩
  · refine results_cct Try.results32 (cs := RS.cells r) (cs2 := wordC (0, 0, 0)) (Blk.rowO (by simp) (Blk.row (T := 59) (old := zs) (by (repeat (first | with_reducible exact HZ.out | with_reducible refine Blk.drewN ?_ | with_reducible refine Blk.drew ?_ | with_reducible refine Blk.alloc' ?_ | ((with_reducible refine Blk.other' ?_ ?_); · (simp; try omega)) | ((with_reducible refine Blk.rowO ?_ ?_); · (simp; try omega)) | exact HZ.out))) _)) rfl Try.underlying59 rfl (RS.info _) (Blk.row (T := 41) (old := wordC (0, 0, 0)) (by (repeat (first | with_reducible exact HY.out | with_reducible refine Blk.drewN ?_ | with_reducible refine Blk.drew ?_ | with_reducible refine Blk.alloc' ?_ | ((with_reducible refine Blk.other' ?_ ?_); · (simp; try omega)) | ((with_reducible refine Blk.rowO ?_ ?_); · (simp; try omega)) | exact HY.out))) _) rfl Try.underlying41 rfl (word_info _)
  · refine HF.out.trans ?_
    repeat (first | with_reducible exact Frm.refl _ _ _ | with_reducible refine Frm.drewN ?_ | with_reducible refine Frm.drew ?_ | ((with_reducible refine Frm.setCell' ?_ ?_); · first | (left; simp; done) | (right; simp; done) | (right; simp; omega)) | ((with_reducible refine Frm.setRow' ?_ ?_); · first | (left; simp; done) | (right; simp; done) | (right; simp; omega)) | ((with_reducible refine Frm.alloc' ?_ ?_); · first | exact Nat.le_refl _ | (simp; done) | (simp; omega)))

set_option maxRecDepth 100000 in
set_option maxHeartbeats 4000000 in
theorem refHear_two (r : RS) (n : Nat) (m : Int) (w : World) (hv : wordB 2 n m = true) (hn : n ≤ r.nodes) (h8 : n ≤ 8) :
    Calls Try.prog 32 #[r.val, .agg (wordC (2, (n : Int), m)).toArray] w fun e w' => e = .returned (hearV r (0, 0, 0) 0) ∧ Frm w.heap.size [] w w' := by
  have HV := Lib.hid hv
  clear hv
  have hn0 : (0 : Int) ≤ (n : Int) := by omega
  have h9 : (n : Int) < 9 := by omega
  go_enter Try.func32, Try.ntmps32
  iterate 19 go_step
  refine named ?_; intro W hW
  have hb : Box W w.heap.size r := by rw [hW]; repeat (first | exact Blk.new w 59 r.cells | refine Blk.alloc' ?_)
  have hx : Blk W (w.heap.size + 1) 41 [.int .i64 2, .int .i64 n, .int .i64 m] := by rw [hW]; repeat (first | exact Blk.new' _ 41 [.int .i64 2, .int .i64 n, .int .i64 m] (by simp) | refine Blk.alloc' ?_)
  obtain ⟨zs, hz1, hz⟩ : ∃ zs, zs.length = 17 ∧ Blk W (w.heap.size + 2) 59 zs := ⟨zero59, rfl, by rw [hW]; repeat (first | exact Blk.new' _ 59 zero59 (by simp) | refine Blk.alloc' ?_)⟩
  have hy : Blk W (w.heap.size + 3) 41 [.int .i64 0, .int .i64 0, .int .i64 0] := by rw [hW]; exact Blk.new' _ 41 [.int .i64 0, .int .i64 0, .int .i64 0] (by simp)
  have hf : Frm w.heap.size [] w W := by rw [hW]; repeat (first | with_reducible exact Frm.refl _ _ _ | with_reducible refine Frm.drewN ?_ | with_reducible refine Frm.drew ?_ | ((with_reducible refine Frm.setCell' ?_ ?_); · first | (left; simp; done) | (right; simp; done) | (right; simp; omega)) | ((with_reducible refine Frm.alloc' ?_ ?_); · first | exact Nat.le_refl _ | (simp; done) | (simp; omega)))
  have hs : W.heap.size = w.heap.size + 4 := by rw [hW]; simp
  clear hW
  have x0 := hx.cell 0
  have x1 := hx.cell 1
  have x2 := hx.cell 2
  simp only [List.getElem?_cons_succ, List.getElem?_cons_zero] at x0 x1 x2
  have HB := Lib.hid hb
  have HX := Lib.hid hx
  have HZ := Lib.hid hz
  have HY := Lib.hid hy
  have HF := Lib.hid hf
  have HS := Lib.hid hs
  clear hb hx hz hy hf hs
  go_wp2_with fail
  refine (refWord_frm _ _ _ _).mono ?_; rintro e w1 ⟨rfl, hf1⟩; rw [HV.out]
  clear x0 x1 x2
  have q0 := HS.out
  have hb : Box w1 w.heap.size r := hf1.blk HB.out (by omega) (by simp)
  have hx : Blk w1 (w.heap.size + 1) 41 [.int .i64 2, .int .i64 n, .int .i64 m] := hf1.blk HX.out (by omega) (by simp)
  have hz : Blk w1 (w.heap.size + 2) 59 zs := hf1.blk HZ.out (by omega) (by simp)
  have hy : Blk w1 (w.heap.size + 3) 41 [.int .i64 0, .int .i64 0, .int .i64 0] := hf1.blk HY.out (by omega) (by simp)
  have hf : Frm w.heap.size [] w w1 := HF.out.call hf1 (by omega) (by simp)
  clear hf1 q0 HB HX HZ HY HF HS
  have x0 := hx.cell 0
  have x1 := hx.cell 1
  have x2 := hx.cell 2
  simp only [List.getElem?_cons_succ, List.getElem?_cons_zero] at x0 x1 x2
  have c0 : w1.cell? ⟨w.heap.size, 0, none⟩ = some (.int .i64 r.nodes) := hb.cell 0
  have f0 := hb.free 0
  have cg : w1.cell? ⟨w.heap.size, 5 + n, none⟩ = some (.int .i64 (r.g[n]?.getD 0)) := (hb.cell _).trans (r.cells_g n h8)
  have fg := hb.free (5 + n)
  have HB := Lib.hid hb
  have HX := Lib.hid hx
  have HZ := Lib.hid hz
  have HY := Lib.hid hy
  have HF := Lib.hid hf
  clear hf hy hz hx hb
  go_wp2_with fail
  go_quiet (fail)
  go_wp2_with (first
    | (with_reducible refine atLoad 59 rfl ?_; refine wpList_loadB (ty := 59) (b := w.heap.size) (T := 59) (cs := RS.cells r) rfl rfl ?_ rfl Try.underlying59 rfl (RS.info _) ?_; (· (repeat (first | with_reducible exact HB.out | with_reducible refine Blk.drewN ?_ | with_reducible refine Blk.drew ?_ | with_reducible refine Blk.alloc' ?_ | ((with_reducible refine Blk.other' ?_ ?_); · (simp; try omega)) | ((with_reducible refine Blk.rowO ?_ ?_); · (simp; try omega)) | exact HB.out))))
    | (with_reducible refine atStore 59 rfl ?_; refine wpList_storeB (ty := 59) rfl rfl (b := w.heap.size + 2) (T := 59) (old := zs) ?_ rfl rfl (hz1.trans (RS.len _).symm) (RS.info _) (RS.one _) ?_; (· (repeat (first | with_reducible exact HZ.out | with_reducible refine Blk.drewN ?_ | with_reducible refine Blk.drew ?_ | with_reducible refine Blk.alloc' ?_ | ((with_reducible refine Blk.other' ?_ ?_); · (simp; try omega)) | ((with_reducible refine Blk.rowO ?_ ?_); · (simp; try omega)) | exact HZ.out))))
    | (with_reducible refine atStore 41 rfl ?_; refine wpList_storeB (P := Try.prog) (ty := 41) (cs := wordC (0, 0, 0)) rfl rfl (b := w.heap.size + 3) (T := 41) (old := wordC (0, 0, 0)) ?_ rfl rfl rfl (word_info _) (word_one _) ?_; (· (repeat (first | with_reducible exact HY.out | with_reducible refine Blk.drewN ?_ | with_reducible refine Blk.drew ?_ | with_reducible refine Blk.alloc' ?_ | ((with_reducible refine Blk.other' ?_ ?_); · (simp; try omega)) | ((with_reducible refine Blk.rowO ?_ ?_); · (simp; try omega)) | exact HY.out)))))
  try simp only [Exit.inBlock, Exit.then]
  refine bodyPost_ret (v := hearV r (0, 0, 0) 0) ?_ rfl ⟨rfl, ?_⟩
  · refine results_cct Try.results32 (cs := RS.cells r) (cs2 := wordC (0, 0, 0)) (Blk.rowO (by simp) (Blk.row (T := 59) (old := zs) (by (repeat (first | with_reducible exact HZ.out | with_reducible refine Blk.drewN ?_ | with_reducible refine Blk.drew ?_ | with_reducible refine Blk.alloc' ?_ | ((with_reducible refine Blk.other' ?_ ?_); · (simp; try omega)) | ((with_reducible refine Blk.rowO ?_ ?_); · (simp; try omega)) | exact HZ.out))) _)) rfl Try.underlying59 rfl (RS.info _) (Blk.row (T := 41) (old := wordC (0, 0, 0)) (by (repeat (first | with_reducible exact HY.out | with_reducible refine Blk.drewN ?_ | with_reducible refine Blk.drew ?_ | with_reducible refine Blk.alloc' ?_ | ((with_reducible refine Blk.other' ?_ ?_); · (simp; try omega)) | ((with_reducible refine Blk.rowO ?_ ?_); · (simp; try omega)) | exact HY.out))) _) rfl Try.underlying41 rfl (word_info _)
  · refine HF.out.trans ?_
    repeat (first | with_reducible exact Frm.refl _ _ _ | with_reducible refine Frm.drewN ?_ | with_reducible refine Frm.drew ?_ | ((with_reducible refine Frm.setCell' ?_ ?_); · first | (left; simp; done) | (right; simp; done) | (right; simp; omega)) | ((with_reducible refine Frm.setRow' ?_ ?_); · first | (left; simp; done) | (right; simp; done) | (right; simp; omega)) | ((with_reducible refine Frm.alloc' ?_ ?_); · first | exact Nat.le_refl _ | (simp; done) | (simp; omega)))

set_option maxRecDepth 100000 in
set_option maxHeartbeats 4000000 in
theorem refHear3_noneN (r : RS) (n : Nat) (m : Int) (w : World) (hv : wordB 3 n m = true) (hn : n ≤ r.nodes) (h8 : n ≤ 8) (tm : r.g[n]?.getD 0 < m) (t1 : ¬ r.lease = n) :
    Calls Try.prog 32 #[r.val, .agg (wordC (3, (n : Int), m)).toArray] w fun e w' => e = .returned (hearV (r.setG n m) (0, 0, 0) 0) ∧ Frm w.heap.size [] w w' := by
  have HV := Lib.hid hv
  clear hv
  have hn0 : (0 : Int) ≤ (n : Int) := by omega
  have h9 : (n : Int) < 9 := by omega
  go_enter Try.func32, Try.ntmps32
  iterate 19 go_step
  refine named ?_; intro W hW
  have hb : Box W w.heap.size r := by rw [hW]; repeat (first | exact Blk.new w 59 r.cells | refine Blk.alloc' ?_)
  have hx : Blk W (w.heap.size + 1) 41 [.int .i64 3, .int .i64 n, .int .i64 m] := by rw [hW]; repeat (first | exact Blk.new' _ 41 [.int .i64 3, .int .i64 n, .int .i64 m] (by simp) | refine Blk.alloc' ?_)
  obtain ⟨zs, hz1, hz⟩ : ∃ zs, zs.length = 17 ∧ Blk W (w.heap.size + 2) 59 zs := ⟨zero59, rfl, by rw [hW]; repeat (first | exact Blk.new' _ 59 zero59 (by simp) | refine Blk.alloc' ?_)⟩
  have hy : Blk W (w.heap.size + 3) 41 [.int .i64 0, .int .i64 0, .int .i64 0] := by rw [hW]; exact Blk.new' _ 41 [.int .i64 0, .int .i64 0, .int .i64 0] (by simp)
  have hf : Frm w.heap.size [] w W := by rw [hW]; repeat (first | with_reducible exact Frm.refl _ _ _ | with_reducible refine Frm.drewN ?_ | with_reducible refine Frm.drew ?_ | ((with_reducible refine Frm.setCell' ?_ ?_); · first | (left; simp; done) | (right; simp; done) | (right; simp; omega)) | ((with_reducible refine Frm.alloc' ?_ ?_); · first | exact Nat.le_refl _ | (simp; done) | (simp; omega)))
  have hs : W.heap.size = w.heap.size + 4 := by rw [hW]; simp
  clear hW
  have x0 := hx.cell 0
  have x1 := hx.cell 1
  have x2 := hx.cell 2
  simp only [List.getElem?_cons_succ, List.getElem?_cons_zero] at x0 x1 x2
  have HB := Lib.hid hb
  have HX := Lib.hid hx
  have HZ := Lib.hid hz
  have HY := Lib.hid hy
  have HF := Lib.hid hf
  have HS := Lib.hid hs
  clear hb hx hz hy hf hs
  go_wp2_with fail
  refine (refWord_frm _ _ _ _).mono ?_; rintro e w1 ⟨rfl, hf1⟩; rw [HV.out]
  clear x0 x1 x2
  have q0 := HS.out
  have hb : Box w1 w.heap.size r := hf1.blk HB.out (by omega) (by simp)
  have hx : Blk w1 (w.heap.size + 1) 41 [.int .i64 3, .int .i64 n, .int .i64 m] := hf1.blk HX.out (by omega) (by simp)
  have hz : Blk w1 (w.heap.size + 2) 59 zs := hf1.blk HZ.out (by omega) (by simp)
  have hy : Blk w1 (w.heap.size + 3) 41 [.int .i64 0, .int .i64 0, .int .i64 0] := hf1.blk HY.out (by omega) (by simp)
  have hf : Frm w.heap.size [] w w1 := HF.out.call hf1 (by omega) (by simp)
  clear hf1 q0 HB HX HZ HY HF HS
  have x0 := hx.cell 0
  have x1 := hx.cell 1
  have x2 := hx.cell 2
  simp only [List.getElem?_cons_succ, List.getElem?_cons_zero] at x0 x1 x2
  have c0 : w1.cell? ⟨w.heap.size, 0, none⟩ = some (.int .i64 r.nodes) := hb.cell 0
  have f0 := hb.free 0
  have cg : w1.cell? ⟨w.heap.size, 5 + n, none⟩ = some (.int .i64 (r.g[n]?.getD 0)) := (hb.cell _).trans (r.cells_g n h8)
  have fg := hb.free (5 + n)
  have HB := Lib.hid hb
  have HX := Lib.hid hx
  have HZ := Lib.hid hz
  have HY := Lib.hid hy
  have HF := Lib.hid hf
  clear hf hy hz hx hb
  go_wp2_with fail
  go_quiet (fail)
  go_wp2_with fail
  refine wp_region_left (by kernel_rfl) ?_
  refine Left.headD 12 (by kernel_rfl) ?_
  simp only [List.take_succ_cons, List.take_zero, List.drop_succ_cons, List.drop_zero, Nat.reduceSub]
  repeat (quiet_step (fail))
  refine wpQuiet_nil ?_
  rintro _ ⟨nq, rfl⟩
  refine Left.tail (by kernel_rfl) ?_
  simp only [List.drop_succ_cons, List.drop_zero]
  iterate 4 go_step
  refine named ?_; intro w2 hw2
  have hb : Box w2 w.heap.size (r.setG n m) := by
    rw [hw2]
    show Blk _ _ _ _
    rw [← RS.setG_cells r n _ h8]
    exact HB.out.drewN.set (5 + n) _
  have hx : Blk w2 (w.heap.size + 1) 41 [.int .i64 3, .int .i64 n, .int .i64 m] := by rw [hw2]; (repeat (first | with_reducible exact HX.out | with_reducible refine Blk.drewN ?_ | with_reducible refine Blk.drew ?_ | with_reducible refine Blk.alloc' ?_ | ((with_reducible refine Blk.other' ?_ ?_); · (simp; try omega)) | ((with_reducible refine Blk.rowO ?_ ?_); · (simp; try omega)) | exact HX.out))
  have hz : Blk w2 (w.heap.size + 2) 59 zs := by rw [hw2]; (repeat (first | with_reducible exact HZ.out | with_reducible refine Blk.drewN ?_ | with_reducible refine Blk.drew ?_ | with_reducible refine Blk.alloc' ?_ | ((with_reducible refine Blk.other' ?_ ?_); · (simp; try omega)) | ((with_reducible refine Blk.rowO ?_ ?_); · (simp; try omega)) | exact HZ.out))
  have hy : Blk w2 (w.heap.size + 3) 41 (wordC (0, 0, 0)) := by rw [hw2]; (repeat (first | with_reducible exact HY.out | with_reducible refine Blk.drewN ?_ | with_reducible refine Blk.drew ?_ | with_reducible refine Blk.alloc' ?_ | ((with_reducible refine Blk.other' ?_ ?_); · (simp; try omega)) | ((with_reducible refine Blk.rowO ?_ ?_); · (simp; try omega)) | exact HY.out))
  have hf : Frm w.heap.size [] w w2 := by
    rw [hw2]
    refine HF.out.trans ?_
    repeat (first | with_reducible exact Frm.refl _ _ _ | with_reducible refine Frm.drewN ?_ | with_reducible refine Frm.drew ?_ | ((with_reducible refine Frm.setCell' ?_ ?_); · first | (left; simp; done) | (right; simp; done) | (right; simp; omega)) | ((with_reducible refine Frm.setRow' ?_ ?_); · first | (left; simp; done) | (right; simp; done) | (right; simp; omega)) | ((with_reducible refine Frm.alloc' ?_ ?_); · first | exact Nat.le_refl _ | (simp; done) | (simp; omega)))
  clear hw2 cg fg c0 f0 x0 x1 x2 HB HX HZ HY HF
  have x0 := hx.cell 0
  have x1 := hx.cell 1
  have x2 := hx.cell 2
  simp only [List.getElem?_cons_succ, List.getElem?_cons_zero] at x0 x1 x2
  have c3 : w2.cell? ⟨w.heap.size, 3, none⟩ = some (.int .i64 r.now) := hb.cell 3
  have f3 := hb.free 3
  have c4 : w2.cell? ⟨w.heap.size, 4, none⟩ = some (.int .i64 r.wanted) := hb.cell 4
  have f4 := hb.free 4
  have c14 : w2.cell? ⟨w.heap.size, 14, none⟩ = some (.int .i64 r.lease) := hb.cell 14
  have f14 := hb.free 14
  have c15 : w2.cell? ⟨w.heap.size, 15, none⟩ = some (.int .i64 r.number) := hb.cell 15
  have f15 := hb.free 15
  have c16 : w2.cell? ⟨w.heap.size, 16, none⟩ = some (.int .i64 r.since) := hb.cell 16
  have f16 := hb.free 16
  have HB := Lib.hid hb
  have HX := Lib.hid hx
  have HZ := Lib.hid hz
  have HY := Lib.hid hy
  have HF := Lib.hid hf
  clear hf hy hz hx hb
  go_wp2_with (first
    | (with_reducible refine atLoad 59 rfl ?_; refine wpList_loadB (ty := 59) (b := w.heap.size) (T := 59) (cs := RS.cells (r.setG n m)) rfl rfl ?_ rfl Try.underlying59 rfl (RS.info _) ?_; (· (repeat (first | with_reducible exact HB.out | with_reducible refine Blk.drewN ?_ | with_reducible refine Blk.drew ?_ | with_reducible refine Blk.alloc' ?_ | ((with_reducible refine Blk.other' ?_ ?_); · (simp; try omega)) | ((with_reducible refine Blk.rowO ?_ ?_); · (simp; try omega)) | exact HB.out))))
    | (with_reducible refine atStore 59 rfl ?_; refine wpList_storeB (ty := 59) rfl rfl (b := w.heap.size + 2) (T := 59) (old := zs) ?_ rfl rfl (hz1.trans (RS.len _).symm) (RS.info _) (RS.one _) ?_; (· (repeat (first | with_reducible exact HZ.out | with_reducible refine Blk.drewN ?_ | with_reducible refine Blk.drew ?_ | with_reducible refine Blk.alloc' ?_ | ((with_reducible refine Blk.other' ?_ ?_); · (simp; try omega)) | ((with_reducible refine Blk.rowO ?_ ?_); · (simp; try omega)) | exact HZ.out))))
    | (with_reducible refine atStore 41 rfl ?_; refine wpList_storeB (P := Try.prog) (ty := 41) (cs := wordC (0, 0, 0)) rfl rfl (b := w.heap.size + 3) (T := 41) (old := wordC (0, 0, 0)) ?_ rfl rfl rfl (word_info _) (word_one _) ?_; (· (repeat (first | with_reducible exact HY.out | with_reducible refine Blk.drewN ?_ | with_reducible refine Blk.drew ?_ | with_reducible refine Blk.alloc' ?_ | ((with_reducible refine Blk.other' ?_ ?_); · (simp; try omega)) | ((with_reducible refine Blk.rowO ?_ ?_); · (simp; try omega)) | exact HY.out)))))
  try simp only [Exit.inBlock, Exit.then]
  refine bodyPost_ret (v := hearV (r.setG n m) (0, 0, 0) 0) ?_ rfl ⟨rfl, ?_⟩
  · refine results_cct Try.results32 (cs := RS.cells (r.setG n m)) (cs2 := wordC (0, 0, 0)) (Blk.rowO (by simp) (Blk.row (T := 59) (old := zs) (by (repeat (first | with_reducible exact HZ.out | with_reducible refine Blk.drewN ?_ | with_reducible refine Blk.drew ?_ | with_reducible refine Blk.alloc' ?_ | ((with_reducible refine Blk.other' ?_ ?_); · (simp; try omega)) | ((with_reducible refine Blk.rowO ?_ ?_); · (simp; try omega)) | exact HZ.out))) _)) rfl Try.underlying59 rfl (RS.info _) (Blk.row (T := 41) (old := wordC (0, 0, 0)) (by (repeat (first | with_reducible exact HY.out | with_reducible refine Blk.drewN ?_ | with_reducible refine Blk.drew ?_ | with_reducible refine Blk.alloc' ?_ | ((with_reducible refine Blk.other' ?_ ?_); · (simp; try omega)) | ((with_reducible refine Blk.rowO ?_ ?_); · (simp; try omega)) | exact HY.out))) _) rfl Try.underlying41 rfl (word_info _)
  · refine HF.out.trans ?_
    repeat (first | with_reducible exact Frm.refl _ _ _ | with_reducible refine Frm.drewN ?_ | with_reducible refine Frm.drew ?_ | ((with_reducible refine Frm.setCell' ?_ ?_); · first | (left; simp; done) | (right; simp; done) | (right; simp; omega)) | ((with_reducible refine Frm.setRow' ?_ ?_); · first | (left; simp; done) | (right; simp; done) | (right; simp; omega)) | ((with_reducible refine Frm.alloc' ?_ ?_); · first | exact Nat.le_refl _ | (simp; done) | (simp; omega)))

set_option maxRecDepth 100000 in
set_option maxHeartbeats 4000000 in
theorem refHear3_lessN (r : RS) (n : Nat) (m : Int) (w : World) (hv : wordB 3 n m = true) (hn : n ≤ r.nodes) (h8 : n ≤ 8) (tm : r.g[n]?.getD 0 < m) (t1 : r.lease = n) (t2 : m < r.number) :
    Calls Try.prog 32 #[r.val, .agg (wordC (3, (n : Int), m)).toArray] w fun e w' => e = .returned (hearV (r.setG n m) (0, 0, 0) 0) ∧ Frm w.heap.size [] w w' := by
  have HV := Lib.hid hv
  clear hv
  have hn0 : (0 : Int) ≤ (n : Int) := by omega
  have h9 : (n : Int) < 9 := by omega
  go_enter Try.func32, Try.ntmps32
  iterate 19 go_step
  refine named ?_; intro W hW
  have hb : Box W w.heap.size r := by rw [hW]; repeat (first | exact Blk.new w 59 r.cells | refine Blk.alloc' ?_)
  have hx : Blk W (w.heap.size + 1) 41 [.int .i64 3, .int .i64 n, .int .i64 m] := by rw [hW]; repeat (first | exact Blk.new' _ 41 [.int .i64 3, .int .i64 n, .int .i64 m] (by simp) | refine Blk.alloc' ?_)
  obtain ⟨zs, hz1, hz⟩ : ∃ zs, zs.length = 17 ∧ Blk W (w.heap.size + 2) 59 zs := ⟨zero59, rfl, by rw [hW]; repeat (first | exact Blk.new' _ 59 zero59 (by simp) | refine Blk.alloc' ?_)⟩
  have hy : Blk W (w.heap.size + 3) 41 [.int .i64 0, .int .i64 0, .int .i64 0] := by rw [hW]; exact Blk.new' _ 41 [.int .i64 0, .int .i64 0, .int .i64 0] (by simp)
  have hf : Frm w.heap.size [] w W := by rw [hW]; repeat (first | with_reducible exact Frm.refl _ _ _ | with_reducible refine Frm.drewN ?_ | with_reducible refine Frm.drew ?_ | ((with_reducible refine Frm.setCell' ?_ ?_); · first | (left; simp; done) | (right; simp; done) | (right; simp; omega)) | ((with_reducible refine Frm.alloc' ?_ ?_); · first | exact Nat.le_refl _ | (simp; done) | (simp; omega)))
  have hs : W.heap.size = w.heap.size + 4 := by rw [hW]; simp
  clear hW
  have x0 := hx.cell 0
  have x1 := hx.cell 1
  have x2 := hx.cell 2
  simp only [List.getElem?_cons_succ, List.getElem?_cons_zero] at x0 x1 x2
  have HB := Lib.hid hb
  have HX := Lib.hid hx
  have HZ := Lib.hid hz
  have HY := Lib.hid hy
  have HF := Lib.hid hf
  have HS := Lib.hid hs
  clear hb hx hz hy hf hs
  go_wp2_with fail
  refine (refWord_frm _ _ _ _).mono ?_; rintro e w1 ⟨rfl, hf1⟩; rw [HV.out]
  clear x0 x1 x2
  have q0 := HS.out
  have hb : Box w1 w.heap.size r := hf1.blk HB.out (by omega) (by simp)
  have hx : Blk w1 (w.heap.size + 1) 41 [.int .i64 3, .int .i64 n, .int .i64 m] := hf1.blk HX.out (by omega) (by simp)
  have hz : Blk w1 (w.heap.size + 2) 59 zs := hf1.blk HZ.out (by omega) (by simp)
  have hy : Blk w1 (w.heap.size + 3) 41 [.int .i64 0, .int .i64 0, .int .i64 0] := hf1.blk HY.out (by omega) (by simp)
  have hf : Frm w.heap.size [] w w1 := HF.out.call hf1 (by omega) (by simp)
  clear hf1 q0 HB HX HZ HY HF HS
  have x0 := hx.cell 0
  have x1 := hx.cell 1
  have x2 := hx.cell 2
  simp only [List.getElem?_cons_succ, List.getElem?_cons_zero] at x0 x1 x2
  have c0 : w1.cell? ⟨w.heap.size, 0, none⟩ = some (.int .i64 r.nodes) := hb.cell 0
  have f0 := hb.free 0
  have cg : w1.cell? ⟨w.heap.size, 5 + n, none⟩ = some (.int .i64 (r.g[n]?.getD 0)) := (hb.cell _).trans (r.cells_g n h8)
  have fg := hb.free (5 + n)
  have HB := Lib.hid hb
  have HX := Lib.hid hx
  have HZ := Lib.hid hz
  have HY := Lib.hid hy
  have HF := Lib.hid hf
  clear hf hy hz hx hb
  go_wp2_with fail
  go_quiet (fail)
  go_wp2_with fail
  refine wp_region_left (by kernel_rfl) ?_
  refine Left.headD 12 (by kernel_rfl) ?_
  simp only [List.take_succ_cons, List.take_zero, List.drop_succ_cons, List.drop_zero, Nat.reduceSub]
  repeat (quiet_step (fail))
  refine wpQuiet_nil ?_
  rintro _ ⟨nq, rfl⟩
  refine Left.tail (by kernel_rfl) ?_
  simp only [List.drop_succ_cons, List.drop_zero]
  iterate 4 go_step
  refine named ?_; intro w2 hw2
  have hb : Box w2 w.heap.size (r.setG n m) := by
    rw [hw2]
    show Blk _ _ _ _
    rw [← RS.setG_cells r n _ h8]
    exact HB.out.drewN.set (5 + n) _
  have hx : Blk w2 (w.heap.size + 1) 41 [.int .i64 3, .int .i64 n, .int .i64 m] := by rw [hw2]; (repeat (first | with_reducible exact HX.out | with_reducible refine Blk.drewN ?_ | with_reducible refine Blk.drew ?_ | with_reducible refine Blk.alloc' ?_ | ((with_reducible refine Blk.other' ?_ ?_); · (simp; try omega)) | ((with_reducible refine Blk.rowO ?_ ?_); · (simp; try omega)) | exact HX.out))
  have hz : Blk w2 (w.heap.size + 2) 59 zs := by rw [hw2]; (repeat (first | with_reducible exact HZ.out | with_reducible refine Blk.drewN ?_ | with_reducible refine Blk.drew ?_ | with_reducible refine Blk.alloc' ?_ | ((with_reducible refine Blk.other' ?_ ?_); · (simp; try omega)) | ((with_reducible refine Blk.rowO ?_ ?_); · (simp; try omega)) | exact HZ.out))
  have hy : Blk w2 (w.heap.size + 3) 41 (wordC (0, 0, 0)) := by rw [hw2]; (repeat (first | with_reducible exact HY.out | with_reducible refine Blk.drewN ?_ | with_reducible refine Blk.drew ?_ | with_reducible refine Blk.alloc' ?_ | ((with_reducible refine Blk.other' ?_ ?_); · (simp; try omega)) | ((with_reducible refine Blk.rowO ?_ ?_); · (simp; try omega)) | exact HY.out))
  have hf : Frm w.heap.size [] w w2 := by
    rw [hw2]
    refine HF.out.trans ?_
    repeat (first | with_reducible exact Frm.refl _ _ _ | with_reducible refine Frm.drewN ?_ | with_reducible refine Frm.drew ?_ | ((with_reducible refine Frm.setCell' ?_ ?_); · first | (left; simp; done) | (right; simp; done) | (right; simp; omega)) | ((with_reducible refine Frm.setRow' ?_ ?_); · first | (left; simp; done) | (right; simp; done) | (right; simp; omega)) | ((with_reducible refine Frm.alloc' ?_ ?_); · first | exact Nat.le_refl _ | (simp; done) | (simp; omega)))
  clear hw2 cg fg c0 f0 x0 x1 x2 HB HX HZ HY HF
  have x0 := hx.cell 0
  have x1 := hx.cell 1
  have x2 := hx.cell 2
  simp only [List.getElem?_cons_succ, List.getElem?_cons_zero] at x0 x1 x2
  have c3 : w2.cell? ⟨w.heap.size, 3, none⟩ = some (.int .i64 r.now) := hb.cell 3
  have f3 := hb.free 3
  have c4 : w2.cell? ⟨w.heap.size, 4, none⟩ = some (.int .i64 r.wanted) := hb.cell 4
  have f4 := hb.free 4
  have c14 : w2.cell? ⟨w.heap.size, 14, none⟩ = some (.int .i64 r.lease) := hb.cell 14
  have f14 := hb.free 14
  have c15 : w2.cell? ⟨w.heap.size, 15, none⟩ = some (.int .i64 r.number) := hb.cell 15
  have f15 := hb.free 15
  have c16 : w2.cell? ⟨w.heap.size, 16, none⟩ = some (.int .i64 r.since) := hb.cell 16
  have f16 := hb.free 16
  have HB := Lib.hid hb
  have HX := Lib.hid hx
  have HZ := Lib.hid hz
  have HY := Lib.hid hy
  have HF := Lib.hid hf
  clear hf hy hz hx hb
  go_wp2_with (first
    | (with_reducible refine atLoad 59 rfl ?_; refine wpList_loadB (ty := 59) (b := w.heap.size) (T := 59) (cs := RS.cells (r.setG n m)) rfl rfl ?_ rfl Try.underlying59 rfl (RS.info _) ?_; (· (repeat (first | with_reducible exact HB.out | with_reducible refine Blk.drewN ?_ | with_reducible refine Blk.drew ?_ | with_reducible refine Blk.alloc' ?_ | ((with_reducible refine Blk.other' ?_ ?_); · (simp; try omega)) | ((with_reducible refine Blk.rowO ?_ ?_); · (simp; try omega)) | exact HB.out))))
    | (with_reducible refine atStore 59 rfl ?_; refine wpList_storeB (ty := 59) rfl rfl (b := w.heap.size + 2) (T := 59) (old := zs) ?_ rfl rfl (hz1.trans (RS.len _).symm) (RS.info _) (RS.one _) ?_; (· (repeat (first | with_reducible exact HZ.out | with_reducible refine Blk.drewN ?_ | with_reducible refine Blk.drew ?_ | with_reducible refine Blk.alloc' ?_ | ((with_reducible refine Blk.other' ?_ ?_); · (simp; try omega)) | ((with_reducible refine Blk.rowO ?_ ?_); · (simp; try omega)) | exact HZ.out))))
    | (with_reducible refine atStore 41 rfl ?_; refine wpList_storeB (P := Try.prog) (ty := 41) (cs := wordC (0, 0, 0)) rfl rfl (b := w.heap.size + 3) (T := 41) (old := wordC (0, 0, 0)) ?_ rfl rfl rfl (word_info _) (word_one _) ?_; (· (repeat (first | with_reducible exact HY.out | with_reducible refine Blk.drewN ?_ | with_reducible refine Blk.drew ?_ | with_reducible refine Blk.alloc' ?_ | ((with_reducible refine Blk.other' ?_ ?_); · (simp; try omega)) | ((with_reducible refine Blk.rowO ?_ ?_); · (simp; try omega)) | exact HY.out)))))
  try simp only [Exit.inBlock, Exit.then]
  refine bodyPost_ret (v := hearV (r.setG n m) (0, 0, 0) 0) ?_ rfl ⟨rfl, ?_⟩
  · refine results_cct Try.results32 (cs := RS.cells (r.setG n m)) (cs2 := wordC (0, 0, 0)) (Blk.rowO (by simp) (Blk.row (T := 59) (old := zs) (by (repeat (first | with_reducible exact HZ.out | with_reducible refine Blk.drewN ?_ | with_reducible refine Blk.drew ?_ | with_reducible refine Blk.alloc' ?_ | ((with_reducible refine Blk.other' ?_ ?_); · (simp; try omega)) | ((with_reducible refine Blk.rowO ?_ ?_); · (simp; try omega)) | exact HZ.out))) _)) rfl Try.underlying59 rfl (RS.info _) (Blk.row (T := 41) (old := wordC (0, 0, 0)) (by (repeat (first | with_reducible exact HY.out | with_reducible refine Blk.drewN ?_ | with_reducible refine Blk.drew ?_ | with_reducible refine Blk.alloc' ?_ | ((with_reducible refine Blk.other' ?_ ?_); · (simp; try omega)) | ((with_reducible refine Blk.rowO ?_ ?_); · (simp; try omega)) | exact HY.out))) _) rfl Try.underlying41 rfl (word_info _)
  · refine HF.out.trans ?_
    repeat (first | with_reducible exact Frm.refl _ _ _ | with_reducible refine Frm.drewN ?_ | with_reducible refine Frm.drew ?_ | ((with_reducible refine Frm.setCell' ?_ ?_); · first | (left; simp; done) | (right; simp; done) | (right; simp; omega)) | ((with_reducible refine Frm.setRow' ?_ ?_); · first | (left; simp; done) | (right; simp; done) | (right; simp; omega)) | ((with_reducible refine Frm.alloc' ?_ ?_); · first | exact Nat.le_refl _ | (simp; done) | (simp; omega)))

set_option maxRecDepth 100000 in
set_option maxHeartbeats 4000000 in
theorem refHear3_backN (r : RS) (n : Nat) (m : Int) (w : World) (hv : wordB 3 n m = true) (hn : n ≤ r.nodes) (h8 : n ≤ 8) (tm : r.g[n]?.getD 0 < m) (t1 : r.lease = n) (t2 : r.number ≤ m) :
    Calls Try.prog 32 #[r.val, .agg (wordC (3, (n : Int), m)).toArray] w fun e w' => e = .returned (hearV { r.setG n m with lease := 0 } (0, 0, 0) 0) ∧ Frm w.heap.size [] w w' := by
  have HV := Lib.hid hv
  clear hv
  have hn0 : (0 : Int) ≤ (n : Int) := by omega
  have h9 : (n : Int) < 9 := by omega
  go_enter Try.func32, Try.ntmps32
  iterate 19 go_step
  refine named ?_; intro W hW
  have hb : Box W w.heap.size r := by rw [hW]; repeat (first | exact Blk.new w 59 r.cells | refine Blk.alloc' ?_)
  have hx : Blk W (w.heap.size + 1) 41 [.int .i64 3, .int .i64 n, .int .i64 m] := by rw [hW]; repeat (first | exact Blk.new' _ 41 [.int .i64 3, .int .i64 n, .int .i64 m] (by simp) | refine Blk.alloc' ?_)
  obtain ⟨zs, hz1, hz⟩ : ∃ zs, zs.length = 17 ∧ Blk W (w.heap.size + 2) 59 zs := ⟨zero59, rfl, by rw [hW]; repeat (first | exact Blk.new' _ 59 zero59 (by simp) | refine Blk.alloc' ?_)⟩
  have hy : Blk W (w.heap.size + 3) 41 [.int .i64 0, .int .i64 0, .int .i64 0] := by rw [hW]; exact Blk.new' _ 41 [.int .i64 0, .int .i64 0, .int .i64 0] (by simp)
  have hf : Frm w.heap.size [] w W := by rw [hW]; repeat (first | with_reducible exact Frm.refl _ _ _ | with_reducible refine Frm.drewN ?_ | with_reducible refine Frm.drew ?_ | ((with_reducible refine Frm.setCell' ?_ ?_); · first | (left; simp; done) | (right; simp; done) | (right; simp; omega)) | ((with_reducible refine Frm.alloc' ?_ ?_); · first | exact Nat.le_refl _ | (simp; done) | (simp; omega)))
  have hs : W.heap.size = w.heap.size + 4 := by rw [hW]; simp
  clear hW
  have x0 := hx.cell 0
  have x1 := hx.cell 1
  have x2 := hx.cell 2
  simp only [List.getElem?_cons_succ, List.getElem?_cons_zero] at x0 x1 x2
  have HB := Lib.hid hb
  have HX := Lib.hid hx
  have HZ := Lib.hid hz
  have HY := Lib.hid hy
  have HF := Lib.hid hf
  have HS := Lib.hid hs
  clear hb hx hz hy hf hs
  go_wp2_with fail
  refine (refWord_frm _ _ _ _).mono ?_; rintro e w1 ⟨rfl, hf1⟩; rw [HV.out]
  clear x0 x1 x2
  have q0 := HS.out
  have hb : Box w1 w.heap.size r := hf1.blk HB.out (by omega) (by simp)
  have hx : Blk w1 (w.heap.size + 1) 41 [.int .i64 3, .int .i64 n, .int .i64 m] := hf1.blk HX.out (by omega) (by simp)
  have hz : Blk w1 (w.heap.size + 2) 59 zs := hf1.blk HZ.out (by omega) (by simp)
  have hy : Blk w1 (w.heap.size + 3) 41 [.int .i64 0, .int .i64 0, .int .i64 0] := hf1.blk HY.out (by omega) (by simp)
  have hf : Frm w.heap.size [] w w1 := HF.out.call hf1 (by omega) (by simp)
  clear hf1 q0 HB HX HZ HY HF HS
  have x0 := hx.cell 0
  have x1 := hx.cell 1
  have x2 := hx.cell 2
  simp only [List.getElem?_cons_succ, List.getElem?_cons_zero] at x0 x1 x2
  have c0 : w1.cell? ⟨w.heap.size, 0, none⟩ = some (.int .i64 r.nodes) := hb.cell 0
  have f0 := hb.free 0
  have cg : w1.cell? ⟨w.heap.size, 5 + n, none⟩ = some (.int .i64 (r.g[n]?.getD 0)) := (hb.cell _).trans (r.cells_g n h8)
  have fg := hb.free (5 + n)
  have HB := Lib.hid hb
  have HX := Lib.hid hx
  have HZ := Lib.hid hz
  have HY := Lib.hid hy
  have HF := Lib.hid hf
  clear hf hy hz hx hb
  go_wp2_with fail
  go_quiet (fail)
  go_wp2_with fail
  refine wp_region_left (by kernel_rfl) ?_
  refine Left.headD 12 (by kernel_rfl) ?_
  simp only [List.take_succ_cons, List.take_zero, List.drop_succ_cons, List.drop_zero, Nat.reduceSub]
  repeat (quiet_step (fail))
  refine wpQuiet_nil ?_
  rintro _ ⟨nq, rfl⟩
  refine Left.tail (by kernel_rfl) ?_
  simp only [List.drop_succ_cons, List.drop_zero]
  iterate 4 go_step
  refine named ?_; intro w2 hw2
  have hb : Box w2 w.heap.size (r.setG n m) := by
    rw [hw2]
    show Blk _ _ _ _
    rw [← RS.setG_cells r n _ h8]
    exact HB.out.drewN.set (5 + n) _
  have hx : Blk w2 (w.heap.size + 1) 41 [.int .i64 3, .int .i64 n, .int .i64 m] := by rw [hw2]; (repeat (first | with_reducible exact HX.out | with_reducible refine Blk.drewN ?_ | with_reducible refine Blk.drew ?_ | with_reducible refine Blk.alloc' ?_ | ((with_reducible refine Blk.other' ?_ ?_); · (simp; try omega)) | ((with_reducible refine Blk.rowO ?_ ?_); · (simp; try omega)) | exact HX.out))
  have hz : Blk w2 (w.heap.size + 2) 59 zs := by rw [hw2]; (repeat (first | with_reducible exact HZ.out | with_reducible refine Blk.drewN ?_ | with_reducible refine Blk.drew ?_ | with_reducible refine Blk.alloc' ?_ | ((with_reducible refine Blk.other' ?_ ?_); · (simp; try omega)) | ((with_reducible refine Blk.rowO ?_ ?_); · (simp; try omega)) | exact HZ.out))
  have hy : Blk w2 (w.heap.size + 3) 41 (wordC (0, 0, 0)) := by rw [hw2]; (repeat (first | with_reducible exact HY.out | with_reducible refine Blk.drewN ?_ | with_reducible refine Blk.drew ?_ | with_reducible refine Blk.alloc' ?_ | ((with_reducible refine Blk.other' ?_ ?_); · (simp; try omega)) | ((with_reducible refine Blk.rowO ?_ ?_); · (simp; try omega)) | exact HY.out))
  have hf : Frm w.heap.size [] w w2 := by
    rw [hw2]
    refine HF.out.trans ?_
    repeat (first | with_reducible exact Frm.refl _ _ _ | with_reducible refine Frm.drewN ?_ | with_reducible refine Frm.drew ?_ | ((with_reducible refine Frm.setCell' ?_ ?_); · first | (left; simp; done) | (right; simp; done) | (right; simp; omega)) | ((with_reducible refine Frm.setRow' ?_ ?_); · first | (left; simp; done) | (right; simp; done) | (right; simp; omega)) | ((with_reducible refine Frm.alloc' ?_ ?_); · first | exact Nat.le_refl _ | (simp; done) | (simp; omega)))
  clear hw2 cg fg c0 f0 x0 x1 x2 HB HX HZ HY HF
  have x0 := hx.cell 0
  have x1 := hx.cell 1
  have x2 := hx.cell 2
  simp only [List.getElem?_cons_succ, List.getElem?_cons_zero] at x0 x1 x2
  have c3 : w2.cell? ⟨w.heap.size, 3, none⟩ = some (.int .i64 r.now) := hb.cell 3
  have f3 := hb.free 3
  have c4 : w2.cell? ⟨w.heap.size, 4, none⟩ = some (.int .i64 r.wanted) := hb.cell 4
  have f4 := hb.free 4
  have c14 : w2.cell? ⟨w.heap.size, 14, none⟩ = some (.int .i64 r.lease) := hb.cell 14
  have f14 := hb.free 14
  have c15 : w2.cell? ⟨w.heap.size, 15, none⟩ = some (.int .i64 r.number) := hb.cell 15
  have f15 := hb.free 15
  have c16 : w2.cell? ⟨w.heap.size, 16, none⟩ = some (.int .i64 r.since) := hb.cell 16
  have f16 := hb.free 16
  have HB := Lib.hid hb
  have HX := Lib.hid hx
  have HZ := Lib.hid hz
  have HY := Lib.hid hy
  have HF := Lib.hid hf
  clear hf hy hz hx hb
  go_wp2_with (first
    | (with_reducible refine atLoad 59 rfl ?_; refine wpList_loadB (ty := 59) rfl rfl (show Box _ _ { r.setG n m with lease := 0 } from HB.out.set 14 _) rfl Try.underlying59 rfl (RS.info _) ?_)
    | (with_reducible refine atStore 59 rfl ?_; refine wpList_storeB (ty := 59) rfl rfl (b := w.heap.size + 2) (T := 59) (old := zs) ?_ rfl rfl (hz1.trans (RS.len _).symm) (RS.info _) (RS.one _) ?_; (· (repeat (first | with_reducible exact HZ.out | with_reducible refine Blk.drewN ?_ | with_reducible refine Blk.drew ?_ | with_reducible refine Blk.alloc' ?_ | ((with_reducible refine Blk.other' ?_ ?_); · (simp; try omega)) | ((with_reducible refine Blk.rowO ?_ ?_); · (simp; try omega)) | exact HZ.out))))
    | (with_reducible refine atStore 41 rfl ?_; refine wpList_storeB (P := Try.prog) (ty := 41) (cs := wordC (0, 0, 0)) rfl rfl (b := w.heap.size + 3) (T := 41) (old := wordC (0, 0, 0)) ?_ rfl rfl rfl (word_info _) (word_one _) ?_; (· (repeat (first | with_reducible exact HY.out | with_reducible refine Blk.drewN ?_ | with_reducible refine Blk.drew ?_ | with_reducible refine Blk.alloc' ?_ | ((with_reducible refine Blk.other' ?_ ?_); · (simp; try omega)) | ((with_reducible refine Blk.rowO ?_ ?_); · (simp; try omega)) | exact HY.out)))))
  try simp only [Exit.inBlock, Exit.then]
  refine bodyPost_ret (v := hearV { r.setG n m with lease := 0 } (0, 0, 0) 0) ?_ rfl ⟨rfl, ?_⟩
  · refine results_cct Try.results32 (cs := RS.cells { r.setG n m with lease := 0 }) (cs2 := wordC (0, 0, 0)) (Blk.rowO (by simp) (Blk.row (T := 59) (old := zs) (by (repeat (first | with_reducible exact HZ.out | with_reducible refine Blk.drewN ?_ | with_reducible refine Blk.drew ?_ | with_reducible refine Blk.alloc' ?_ | ((with_reducible refine Blk.other' ?_ ?_); · (simp; try omega)) | ((with_reducible refine Blk.rowO ?_ ?_); · (simp; try omega)) | exact HZ.out))) _)) rfl Try.underlying59 rfl (RS.info _) (Blk.row (T := 41) (old := wordC (0, 0, 0)) (by (repeat (first | with_reducible exact HY.out | with_reducible refine Blk.drewN ?_ | with_reducible refine Blk.drew ?_ | with_reducible refine Blk.alloc' ?_ | ((with_reducible refine Blk.other' ?_ ?_); · (simp; try omega)) | ((with_reducible refine Blk.rowO ?_ ?_); · (simp; try omega)) | exact HY.out))) _) rfl Try.underlying41 rfl (word_info _)
  · refine HF.out.trans ?_
    repeat (first | with_reducible exact Frm.refl _ _ _ | with_reducible refine Frm.drewN ?_ | with_reducible refine Frm.drew ?_ | ((with_reducible refine Frm.setCell' ?_ ?_); · first | (left; simp; done) | (right; simp; done) | (right; simp; omega)) | ((with_reducible refine Frm.setRow' ?_ ?_); · first | (left; simp; done) | (right; simp; done) | (right; simp; omega)) | ((with_reducible refine Frm.alloc' ?_ ?_); · first | exact Nat.le_refl _ | (simp; done) | (simp; omega)))

set_option maxRecDepth 100000 in
set_option maxHeartbeats 4000000 in
theorem refHear3_noneO (r : RS) (n : Nat) (m : Int) (w : World) (hv : wordB 3 n m = true) (hn : n ≤ r.nodes) (h8 : n ≤ 8) (tm : ¬ r.g[n]?.getD 0 < m) (t1 : ¬ r.lease = n) :
    Calls Try.prog 32 #[r.val, .agg (wordC (3, (n : Int), m)).toArray] w fun e w' => e = .returned (hearV (r.setG n (r.g[n]?.getD 0)) (0, 0, 0) 0) ∧ Frm w.heap.size [] w w' := by
  have HV := Lib.hid hv
  clear hv
  have hn0 : (0 : Int) ≤ (n : Int) := by omega
  have h9 : (n : Int) < 9 := by omega
  go_enter Try.func32, Try.ntmps32
  iterate 19 go_step
  refine named ?_; intro W hW
  have hb : Box W w.heap.size r := by rw [hW]; repeat (first | exact Blk.new w 59 r.cells | refine Blk.alloc' ?_)
  have hx : Blk W (w.heap.size + 1) 41 [.int .i64 3, .int .i64 n, .int .i64 m] := by rw [hW]; repeat (first | exact Blk.new' _ 41 [.int .i64 3, .int .i64 n, .int .i64 m] (by simp) | refine Blk.alloc' ?_)
  obtain ⟨zs, hz1, hz⟩ : ∃ zs, zs.length = 17 ∧ Blk W (w.heap.size + 2) 59 zs := ⟨zero59, rfl, by rw [hW]; repeat (first | exact Blk.new' _ 59 zero59 (by simp) | refine Blk.alloc' ?_)⟩
  have hy : Blk W (w.heap.size + 3) 41 [.int .i64 0, .int .i64 0, .int .i64 0] := by rw [hW]; exact Blk.new' _ 41 [.int .i64 0, .int .i64 0, .int .i64 0] (by simp)
  have hf : Frm w.heap.size [] w W := by rw [hW]; repeat (first | with_reducible exact Frm.refl _ _ _ | with_reducible refine Frm.drewN ?_ | with_reducible refine Frm.drew ?_ | ((with_reducible refine Frm.setCell' ?_ ?_); · first | (left; simp; done) | (right; simp; done) | (right; simp; omega)) | ((with_reducible refine Frm.alloc' ?_ ?_); · first | exact Nat.le_refl _ | (simp; done) | (simp; omega)))
  have hs : W.heap.size = w.heap.size + 4 := by rw [hW]; simp
  clear hW
  have x0 := hx.cell 0
  have x1 := hx.cell 1
  have x2 := hx.cell 2
  simp only [List.getElem?_cons_succ, List.getElem?_cons_zero] at x0 x1 x2
  have HB := Lib.hid hb
  have HX := Lib.hid hx
  have HZ := Lib.hid hz
  have HY := Lib.hid hy
  have HF := Lib.hid hf
  have HS := Lib.hid hs
  clear hb hx hz hy hf hs
  go_wp2_with fail
  refine (refWord_frm _ _ _ _).mono ?_; rintro e w1 ⟨rfl, hf1⟩; rw [HV.out]
  clear x0 x1 x2
  have q0 := HS.out
  have hb : Box w1 w.heap.size r := hf1.blk HB.out (by omega) (by simp)
  have hx : Blk w1 (w.heap.size + 1) 41 [.int .i64 3, .int .i64 n, .int .i64 m] := hf1.blk HX.out (by omega) (by simp)
  have hz : Blk w1 (w.heap.size + 2) 59 zs := hf1.blk HZ.out (by omega) (by simp)
  have hy : Blk w1 (w.heap.size + 3) 41 [.int .i64 0, .int .i64 0, .int .i64 0] := hf1.blk HY.out (by omega) (by simp)
  have hf : Frm w.heap.size [] w w1 := HF.out.call hf1 (by omega) (by simp)
  clear hf1 q0 HB HX HZ HY HF HS
  have x0 := hx.cell 0
  have x1 := hx.cell 1
  have x2 := hx.cell 2
  simp only [List.getElem?_cons_succ, List.getElem?_cons_zero] at x0 x1 x2
  have c0 : w1.cell? ⟨w.heap.size, 0, none⟩ = some (.int .i64 r.nodes) := hb.cell 0
  have f0 := hb.free 0
  have cg : w1.cell? ⟨w.heap.size, 5 + n, none⟩ = some (.int .i64 (r.g[n]?.getD 0)) := (hb.cell _).trans (r.cells_g n h8)
  have fg := hb.free (5 + n)
  have HB := Lib.hid hb
  have HX := Lib.hid hx
  have HZ := Lib.hid hz
  have HY := Lib.hid hy
  have HF := Lib.hid hf
  clear hf hy hz hx hb
  go_wp2_with fail
  go_quiet (fail)
  go_wp2_with fail
  refine wp_region_left (by kernel_rfl) ?_
  refine Left.headD 12 (by kernel_rfl) ?_
  simp only [List.take_succ_cons, List.take_zero, List.drop_succ_cons, List.drop_zero, Nat.reduceSub]
  repeat (quiet_step (fail))
  refine wpQuiet_nil ?_
  rintro _ ⟨nq, rfl⟩
  refine Left.tail (by kernel_rfl) ?_
  simp only [List.drop_succ_cons, List.drop_zero]
  iterate 4 go_step
  refine named ?_; intro w2 hw2
  have hb : Box w2 w.heap.size (r.setG n (r.g[n]?.getD 0)) := by
    rw [hw2]
    show Blk _ _ _ _
    rw [← RS.setG_cells r n _ h8]
    exact HB.out.drewN.set (5 + n) _
  have hx : Blk w2 (w.heap.size + 1) 41 [.int .i64 3, .int .i64 n, .int .i64 m] := by rw [hw2]; (repeat (first | with_reducible exact HX.out | with_reducible refine Blk.drewN ?_ | with_reducible refine Blk.drew ?_ | with_reducible refine Blk.alloc' ?_ | ((with_reducible refine Blk.other' ?_ ?_); · (simp; try omega)) | ((with_reducible refine Blk.rowO ?_ ?_); · (simp; try omega)) | exact HX.out))
  have hz : Blk w2 (w.heap.size + 2) 59 zs := by rw [hw2]; (repeat (first | with_reducible exact HZ.out | with_reducible refine Blk.drewN ?_ | with_reducible refine Blk.drew ?_ | with_reducible refine Blk.alloc' ?_ | ((with_reducible refine Blk.other' ?_ ?_); · (simp; try omega)) | ((with_reducible refine Blk.rowO ?_ ?_); · (simp; try omega)) | exact HZ.out))
  have hy : Blk w2 (w.heap.size + 3) 41 (wordC (0, 0, 0)) := by rw [hw2]; (repeat (first | with_reducible exact HY.out | with_reducible refine Blk.drewN ?_ | with_reducible refine Blk.drew ?_ | with_reducible refine Blk.alloc' ?_ | ((with_reducible refine Blk.other' ?_ ?_); · (simp; try omega)) | ((with_reducible refine Blk.rowO ?_ ?_); · (simp; try omega)) | exact HY.out))
  have hf : Frm w.heap.size [] w w2 := by
    rw [hw2]
    refine HF.out.trans ?_
    repeat (first | with_reducible exact Frm.refl _ _ _ | with_reducible refine Frm.drewN ?_ | with_reducible refine Frm.drew ?_ | ((with_reducible refine Frm.setCell' ?_ ?_); · first | (left; simp; done) | (right; simp; done) | (right; simp; omega)) | ((with_reducible refine Frm.setRow' ?_ ?_); · first | (left; simp; done) | (right; simp; done) | (right; simp; omega)) | ((with_reducible refine Frm.alloc' ?_ ?_); · first | exact Nat.le_refl _ | (simp; done) | (simp; omega)))
  clear hw2 cg fg c0 f0 x0 x1 x2 HB HX HZ HY HF
  have x0 := hx.cell 0
  have x1 := hx.cell 1
  have x2 := hx.cell 2
  simp only [List.getElem?_cons_succ, List.getElem?_cons_zero] at x0 x1 x2
  have c3 : w2.cell? ⟨w.heap.size, 3, none⟩ = some (.int .i64 r.now) := hb.cell 3
  have f3 := hb.free 3
  have c4 : w2.cell? ⟨w.heap.size, 4, none⟩ = some (.int .i64 r.wanted) := hb.cell 4
  have f4 := hb.free 4
  have c14 : w2.cell? ⟨w.heap.size, 14, none⟩ = some (.int .i64 r.lease) := hb.cell 14
  have f14 := hb.free 14
  have c15 : w2.cell? ⟨w.heap.size, 15, none⟩ = some (.int .i64 r.number) := hb.cell 15
  have f15 := hb.free 15
  have c16 : w2.cell? ⟨w.heap.size, 16, none⟩ = some (.int .i64 r.since) := hb.cell 16
  have f16 := hb.free 16
  have HB := Lib.hid hb
  have HX := Lib.hid hx
  have HZ := Lib.hid hz
  have HY := Lib.hid hy
  have HF := Lib.hid hf
  clear hf hy hz hx hb
  go_wp2_with (first
    | (with_reducible refine atLoad 59 rfl ?_; refine wpList_loadB (ty := 59) (b := w.heap.size) (T := 59) (cs := RS.cells (r.setG n (r.g[n]?.getD 0))) rfl rfl ?_ rfl Try.underlying59 rfl (RS.info _) ?_; (· (repeat (first | with_reducible exact HB.out | with_reducible refine Blk.drewN ?_ | with_reducible refine Blk.drew ?_ | with_reducible refine Blk.alloc' ?_ | ((with_reducible refine Blk.other' ?_ ?_); · (simp; try omega)) | ((with_reducible refine Blk.rowO ?_ ?_); · (simp; try omega)) | exact HB.out))))
    | (with_reducible refine atStore 59 rfl ?_; refine wpList_storeB (ty := 59) rfl rfl (b := w.heap.size + 2) (T := 59) (old := zs) ?_ rfl rfl (hz1.trans (RS.len _).symm) (RS.info _) (RS.one _) ?_; (· (repeat (first | with_reducible exact HZ.out | with_reducible refine Blk.drewN ?_ | with_reducible refine Blk.drew ?_ | with_reducible refine Blk.alloc' ?_ | ((with_reducible refine Blk.other' ?_ ?_); · (simp; try omega)) | ((with_reducible refine Blk.rowO ?_ ?_); · (simp; try omega)) | exact HZ.out))))
    | (with_reducible refine atStore 41 rfl ?_; refine wpList_storeB (P := Try.prog) (ty := 41) (cs := wordC (0, 0, 0)) rfl rfl (b := w.heap.size + 3) (T := 41) (old := wordC (0, 0, 0)) ?_ rfl rfl rfl (word_info _) (word_one _) ?_; (· (repeat (first | with_reducible exact HY.out | with_reducible refine Blk.drewN ?_ | with_reducible refine Blk.drew ?_ | with_reducible refine Blk.alloc' ?_ | ((with_reducible refine Blk.other' ?_ ?_); · (simp; try omega)) | ((with_reducible refine Blk.rowO ?_ ?_); · (simp; try omega)) | exact HY.out)))))
  try simp only [Exit.inBlock, Exit.then]
  refine bodyPost_ret (v := hearV (r.setG n (r.g[n]?.getD 0)) (0, 0, 0) 0) ?_ rfl ⟨rfl, ?_⟩
  · refine results_cct Try.results32 (cs := RS.cells (r.setG n (r.g[n]?.getD 0))) (cs2 := wordC (0, 0, 0)) (Blk.rowO (by simp) (Blk.row (T := 59) (old := zs) (by (repeat (first | with_reducible exact HZ.out | with_reducible refine Blk.drewN ?_ | with_reducible refine Blk.drew ?_ | with_reducible refine Blk.alloc' ?_ | ((with_reducible refine Blk.other' ?_ ?_); · (simp; try omega)) | ((with_reducible refine Blk.rowO ?_ ?_); · (simp; try omega)) | exact HZ.out))) _)) rfl Try.underlying59 rfl (RS.info _) (Blk.row (T := 41) (old := wordC (0, 0, 0)) (by (repeat (first | with_reducible exact HY.out | with_reducible refine Blk.drewN ?_ | with_reducible refine Blk.drew ?_ | with_reducible refine Blk.alloc' ?_ | ((with_reducible refine Blk.other' ?_ ?_); · (simp; try omega)) | ((with_reducible refine Blk.rowO ?_ ?_); · (simp; try omega)) | exact HY.out))) _) rfl Try.underlying41 rfl (word_info _)
  · refine HF.out.trans ?_
    repeat (first | with_reducible exact Frm.refl _ _ _ | with_reducible refine Frm.drewN ?_ | with_reducible refine Frm.drew ?_ | ((with_reducible refine Frm.setCell' ?_ ?_); · first | (left; simp; done) | (right; simp; done) | (right; simp; omega)) | ((with_reducible refine Frm.setRow' ?_ ?_); · first | (left; simp; done) | (right; simp; done) | (right; simp; omega)) | ((with_reducible refine Frm.alloc' ?_ ?_); · first | exact Nat.le_refl _ | (simp; done) | (simp; omega)))

set_option maxRecDepth 100000 in
set_option maxHeartbeats 4000000 in
theorem refHear3_lessO (r : RS) (n : Nat) (m : Int) (w : World) (hv : wordB 3 n m = true) (hn : n ≤ r.nodes) (h8 : n ≤ 8) (tm : ¬ r.g[n]?.getD 0 < m) (t1 : r.lease = n) (t2 : m < r.number) :
    Calls Try.prog 32 #[r.val, .agg (wordC (3, (n : Int), m)).toArray] w fun e w' => e = .returned (hearV (r.setG n (r.g[n]?.getD 0)) (0, 0, 0) 0) ∧ Frm w.heap.size [] w w' := by
  have HV := Lib.hid hv
  clear hv
  have hn0 : (0 : Int) ≤ (n : Int) := by omega
  have h9 : (n : Int) < 9 := by omega
  go_enter Try.func32, Try.ntmps32
  iterate 19 go_step
  refine named ?_; intro W hW
  have hb : Box W w.heap.size r := by rw [hW]; repeat (first | exact Blk.new w 59 r.cells | refine Blk.alloc' ?_)
  have hx : Blk W (w.heap.size + 1) 41 [.int .i64 3, .int .i64 n, .int .i64 m] := by rw [hW]; repeat (first | exact Blk.new' _ 41 [.int .i64 3, .int .i64 n, .int .i64 m] (by simp) | refine Blk.alloc' ?_)
  obtain ⟨zs, hz1, hz⟩ : ∃ zs, zs.length = 17 ∧ Blk W (w.heap.size + 2) 59 zs := ⟨zero59, rfl, by rw [hW]; repeat (first | exact Blk.new' _ 59 zero59 (by simp) | refine Blk.alloc' ?_)⟩
  have hy : Blk W (w.heap.size + 3) 41 [.int .i64 0, .int .i64 0, .int .i64 0] := by rw [hW]; exact Blk.new' _ 41 [.int .i64 0, .int .i64 0, .int .i64 0] (by simp)
  have hf : Frm w.heap.size [] w W := by rw [hW]; repeat (first | with_reducible exact Frm.refl _ _ _ | with_reducible refine Frm.drewN ?_ | with_reducible refine Frm.drew ?_ | ((with_reducible refine Frm.setCell' ?_ ?_); · first | (left; simp; done) | (right; simp; done) | (right; simp; omega)) | ((with_reducible refine Frm.alloc' ?_ ?_); · first | exact Nat.le_refl _ | (simp; done) | (simp; omega)))
  have hs : W.heap.size = w.heap.size + 4 := by rw [hW]; simp
  clear hW
  have x0 := hx.cell 0
  have x1 := hx.cell 1
  have x2 := hx.cell 2
  simp only [List.getElem?_cons_succ, List.getElem?_cons_zero] at x0 x1 x2
  have HB := Lib.hid hb
  have HX := Lib.hid hx
  have HZ := Lib.hid hz
  have HY := Lib.hid hy
  have HF := Lib.hid hf
  have HS := Lib.hid hs
  clear hb hx hz hy hf hs
  go_wp2_with fail
  refine (refWord_frm _ _ _ _).mono ?_; rintro e w1 ⟨rfl, hf1⟩; rw [HV.out]
  clear x0 x1 x2
  have q0 := HS.out
  have hb : Box w1 w.heap.size r := hf1.blk HB.out (by omega) (by simp)
  have hx : Blk w1 (w.heap.size + 1) 41 [.int .i64 3, .int .i64 n, .int .i64 m] := hf1.blk HX.out (by omega) (by simp)
  have hz : Blk w1 (w.heap.size + 2) 59 zs := hf1.blk HZ.out (by omega) (by simp)
  have hy : Blk w1 (w.heap.size + 3) 41 [.int .i64 0, .int .i64 0, .int .i64 0] := hf1.blk HY.out (by omega) (by simp)
  have hf : Frm w.heap.size [] w w1 := HF.out.call hf1 (by omega) (by simp)
  clear hf1 q0 HB HX HZ HY HF HS
  have x0 := hx.cell 0
  have x1 := hx.cell 1
  have x2 := hx.cell 2
  simp only [List.getElem?_cons_succ, List.getElem?_cons_zero] at x0 x1 x2
  have c0 : w1.cell? ⟨w.heap.size, 0, none⟩ = some (.int .i64 r.nodes) := hb.cell 0
  have f0 := hb.free 0
  have cg : w1.cell? ⟨w.heap.size, 5 + n, none⟩ = some (.int .i64 (r.g[n]?.getD 0)) := (hb.cell _).trans (r.cells_g n h8)
  have fg := hb.free (5 + n)
  have HB := Lib.hid hb
  have HX := Lib.hid hx
  have HZ := Lib.hid hz
  have HY := Lib.hid hy
  have HF := Lib.hid hf
  clear hf hy hz hx hb
  go_wp2_with fail
  go_quiet (fail)
  go_wp2_with fail
  refine wp_region_left (by kernel_rfl) ?_
  refine Left.headD 12 (by kernel_rfl) ?_
  simp only [List.take_succ_cons, List.take_zero, List.drop_succ_cons, List.drop_zero, Nat.reduceSub]
  repeat (quiet_step (fail))
  refine wpQuiet_nil ?_
  rintro _ ⟨nq, rfl⟩
  refine Left.tail (by kernel_rfl) ?_
  simp only [List.drop_succ_cons, List.drop_zero]
  iterate 4 go_step
  refine named ?_; intro w2 hw2
  have hb : Box w2 w.heap.size (r.setG n (r.g[n]?.getD 0)) := by
    rw [hw2]
    show Blk _ _ _ _
    rw [← RS.setG_cells r n _ h8]
    exact HB.out.drewN.set (5 + n) _
  have hx : Blk w2 (w.heap.size + 1) 41 [.int .i64 3, .int .i64 n, .int .i64 m] := by rw [hw2]; (repeat (first | with_reducible exact HX.out | with_reducible refine Blk.drewN ?_ | with_reducible refine Blk.drew ?_ | with_reducible refine Blk.alloc' ?_ | ((with_reducible refine Blk.other' ?_ ?_); · (simp; try omega)) | ((with_reducible refine Blk.rowO ?_ ?_); · (simp; try omega)) | exact HX.out))
  have hz : Blk w2 (w.heap.size + 2) 59 zs := by rw [hw2]; (repeat (first | with_reducible exact HZ.out | with_reducible refine Blk.drewN ?_ | with_reducible refine Blk.drew ?_ | with_reducible refine Blk.alloc' ?_ | ((with_reducible refine Blk.other' ?_ ?_); · (simp; try omega)) | ((with_reducible refine Blk.rowO ?_ ?_); · (simp; try omega)) | exact HZ.out))
  have hy : Blk w2 (w.heap.size + 3) 41 (wordC (0, 0, 0)) := by rw [hw2]; (repeat (first | with_reducible exact HY.out | with_reducible refine Blk.drewN ?_ | with_reducible refine Blk.drew ?_ | with_reducible refine Blk.alloc' ?_ | ((with_reducible refine Blk.other' ?_ ?_); · (simp; try omega)) | ((with_reducible refine Blk.rowO ?_ ?_); · (simp; try omega)) | exact HY.out))
  have hf : Frm w.heap.size [] w w2 := by
    rw [hw2]
    refine HF.out.trans ?_
    repeat (first | with_reducible exact Frm.refl _ _ _ | with_reducible refine Frm.drewN ?_ | with_reducible refine Frm.drew ?_ | ((with_reducible refine Frm.setCell' ?_ ?_); · first | (left; simp; done) | (right; simp; done) | (right; simp; omega)) | ((with_reducible refine Frm.setRow' ?_ ?_); · first | (left; simp; done) | (right; simp; done) | (right; simp; omega)) | ((with_reducible refine Frm.alloc' ?_ ?_); · first | exact Nat.le_refl _ | (simp; done) | (simp; omega)))
  clear hw2 cg fg c0 f0 x0 x1 x2 HB HX HZ HY HF
  have x0 := hx.cell 0
  have x1 := hx.cell 1
  have x2 := hx.cell 2
  simp only [List.getElem?_cons_succ, List.getElem?_cons_zero] at x0 x1 x2
  have c3 : w2.cell? ⟨w.heap.size, 3, none⟩ = some (.int .i64 r.now) := hb.cell 3
  have f3 := hb.free 3
  have c4 : w2.cell? ⟨w.heap.size, 4, none⟩ = some (.int .i64 r.wanted) := hb.cell 4
  have f4 := hb.free 4
  have c14 : w2.cell? ⟨w.heap.size, 14, none⟩ = some (.int .i64 r.lease) := hb.cell 14
  have f14 := hb.free 14
  have c15 : w2.cell? ⟨w.heap.size, 15, none⟩ = some (.int .i64 r.number) := hb.cell 15
  have f15 := hb.free 15
  have c16 : w2.cell? ⟨w.heap.size, 16, none⟩ = some (.int .i64 r.since) := hb.cell 16
  have f16 := hb.free 16
  have HB := Lib.hid hb
  have HX := Lib.hid hx
  have HZ := Lib.hid hz
  have HY := Lib.hid hy
  have HF := Lib.hid hf
  clear hf hy hz hx hb
  go_wp2_with (first
    | (with_reducible refine atLoad 59 rfl ?_; refine wpList_loadB (ty := 59) (b := w.heap.size) (T := 59) (cs := RS.cells (r.setG n (r.g[n]?.getD 0))) rfl rfl ?_ rfl Try.underlying59 rfl (RS.info _) ?_; (· (repeat (first | with_reducible exact HB.out | with_reducible refine Blk.drewN ?_ | with_reducible refine Blk.drew ?_ | with_reducible refine Blk.alloc' ?_ | ((with_reducible refine Blk.other' ?_ ?_); · (simp; try omega)) | ((with_reducible refine Blk.rowO ?_ ?_); · (simp; try omega)) | exact HB.out))))
    | (with_reducible refine atStore 59 rfl ?_; refine wpList_storeB (ty := 59) rfl rfl (b := w.heap.size + 2) (T := 59) (old := zs) ?_ rfl rfl (hz1.trans (RS.len _).symm) (RS.info _) (RS.one _) ?_; (· (repeat (first | with_reducible exact HZ.out | with_reducible refine Blk.drewN ?_ | with_reducible refine Blk.drew ?_ | with_reducible refine Blk.alloc' ?_ | ((with_reducible refine Blk.other' ?_ ?_); · (simp; try omega)) | ((with_reducible refine Blk.rowO ?_ ?_); · (simp; try omega)) | exact HZ.out))))
    | (with_reducible refine atStore 41 rfl ?_; refine wpList_storeB (P := Try.prog) (ty := 41) (cs := wordC (0, 0, 0)) rfl rfl (b := w.heap.size + 3) (T := 41) (old := wordC (0, 0, 0)) ?_ rfl rfl rfl (word_info _) (word_one _) ?_; (· (repeat (first | with_reducible exact HY.out | with_reducible refine Blk.drewN ?_ | with_reducible refine Blk.drew ?_ | with_reducible refine Blk.alloc' ?_ | ((with_reducible refine Blk.other' ?_ ?_); · (simp; try omega)) | ((with_reducible refine Blk.rowO ?_ ?_); · (simp; try omega)) | exact HY.out)))))
  try simp only [Exit.inBlock, Exit.then]
  refine bodyPost_ret (v := hearV (r.setG n (r.g[n]?.getD 0)) (0, 0, 0) 0) ?_ rfl ⟨rfl, ?_⟩
  · refine results_cct Try.results32 (cs := RS.cells (r.setG n (r.g[n]?.getD 0))) (cs2 := wordC (0, 0, 0)) (Blk.rowO (by simp) (Blk.row (T := 59) (old := zs) (by (repeat (first | with_reducible exact HZ.out | with_reducible refine Blk.drewN ?_ | with_reducible refine Blk.drew ?_ | with_reducible refine Blk.alloc' ?_ | ((with_reducible refine Blk.other' ?_ ?_); · (simp; try omega)) | ((with_reducible refine Blk.rowO ?_ ?_); · (simp; try omega)) | exact HZ.out))) _)) rfl Try.underlying59 rfl (RS.info _) (Blk.row (T := 41) (old := wordC (0, 0, 0)) (by (repeat (first | with_reducible exact HY.out | with_reducible refine Blk.drewN ?_ | with_reducible refine Blk.drew ?_ | with_reducible refine Blk.alloc' ?_ | ((with_reducible refine Blk.other' ?_ ?_); · (simp; try omega)) | ((with_reducible refine Blk.rowO ?_ ?_); · (simp; try omega)) | exact HY.out))) _) rfl Try.underlying41 rfl (word_info _)
  · refine HF.out.trans ?_
    repeat (first | with_reducible exact Frm.refl _ _ _ | with_reducible refine Frm.drewN ?_ | with_reducible refine Frm.drew ?_ | ((with_reducible refine Frm.setCell' ?_ ?_); · first | (left; simp; done) | (right; simp; done) | (right; simp; omega)) | ((with_reducible refine Frm.setRow' ?_ ?_); · first | (left; simp; done) | (right; simp; done) | (right; simp; omega)) | ((with_reducible refine Frm.alloc' ?_ ?_); · first | exact Nat.le_refl _ | (simp; done) | (simp; omega)))

set_option maxRecDepth 100000 in
set_option maxHeartbeats 4000000 in
theorem refHear3_backO (r : RS) (n : Nat) (m : Int) (w : World) (hv : wordB 3 n m = true) (hn : n ≤ r.nodes) (h8 : n ≤ 8) (tm : ¬ r.g[n]?.getD 0 < m) (t1 : r.lease = n) (t2 : r.number ≤ m) :
    Calls Try.prog 32 #[r.val, .agg (wordC (3, (n : Int), m)).toArray] w fun e w' => e = .returned (hearV { r.setG n (r.g[n]?.getD 0) with lease := 0 } (0, 0, 0) 0) ∧ Frm w.heap.size [] w w' := by
  have HV := Lib.hid hv
  clear hv
  have hn0 : (0 : Int) ≤ (n : Int) := by omega
  have h9 : (n : Int) < 9 := by omega
  go_enter Try.func32, Try.ntmps32
  iterate 19 go_step
  refine named ?_; intro W hW
  have hb : Box W w.heap.size r := by rw [hW]; repeat (first | exact Blk.new w 59 r.cells | refine Blk.alloc' ?_)
  have hx : Blk W (w.heap.size + 1) 41 [.int .i64 3, .int .i64 n, .int .i64 m] := by rw [hW]; repeat (first | exact Blk.new' _ 41 [.int .i64 3, .int .i64 n, .int .i64 m] (by simp) | refine Blk.alloc' ?_)
  obtain ⟨zs, hz1, hz⟩ : ∃ zs, zs.length = 17 ∧ Blk W (w.heap.size + 2) 59 zs := ⟨zero59, rfl, by rw [hW]; repeat (first | exact Blk.new' _ 59 zero59 (by simp) | refine Blk.alloc' ?_)⟩
  have hy : Blk W (w.heap.size + 3) 41 [.int .i64 0, .int .i64 0, .int .i64 0] := by rw [hW]; exact Blk.new' _ 41 [.int .i64 0, .int .i64 0, .int .i64 0] (by simp)
  have hf : Frm w.heap.size [] w W := by rw [hW]; repeat (first | with_reducible exact Frm.refl _ _ _ | with_reducible refine Frm.drewN ?_ | with_reducible refine Frm.drew ?_ | ((with_reducible refine Frm.setCell' ?_ ?_); · first | (left; simp; done) | (right; simp; done) | (right; simp; omega)) | ((with_reducible refine Frm.alloc' ?_ ?_); · first | exact Nat.le_refl _ | (simp; done) | (simp; omega)))
  have hs : W.heap.size = w.heap.size + 4 := by rw [hW]; simp
  clear hW
  have x0 := hx.cell 0
  have x1 := hx.cell 1
  have x2 := hx.cell 2
  simp only [List.getElem?_cons_succ, List.getElem?_cons_zero] at x0 x1 x2
  have HB := Lib.hid hb
  have HX := Lib.hid hx
  have HZ := Lib.hid hz
  have HY := Lib.hid hy
  have HF := Lib.hid hf
  have HS := Lib.hid hs
  clear hb hx hz hy hf hs
  go_wp2_with fail
  refine (refWord_frm _ _ _ _).mono ?_; rintro e w1 ⟨rfl, hf1⟩; rw [HV.out]
  clear x0 x1 x2
  have q0 := HS.out
  have hb : Box w1 w.heap.size r := hf1.blk HB.out (by omega) (by simp)
  have hx : Blk w1 (w.heap.size + 1) 41 [.int .i64 3, .int .i64 n, .int .i64 m] := hf1.blk HX.out (by omega) (by simp)
  have hz : Blk w1 (w.heap.size + 2) 59 zs := hf1.blk HZ.out (by omega) (by simp)
  have hy : Blk w1 (w.heap.size + 3) 41 [.int .i64 0, .int .i64 0, .int .i64 0] := hf1.blk HY.out (by omega) (by simp)
  have hf : Frm w.heap.size [] w w1 := HF.out.call hf1 (by omega) (by simp)
  clear hf1 q0 HB HX HZ HY HF HS
  have x0 := hx.cell 0
  have x1 := hx.cell 1
  have x2 := hx.cell 2
  simp only [List.getElem?_cons_succ, List.getElem?_cons_zero] at x0 x1 x2
  have c0 : w1.cell? ⟨w.heap.size, 0, none⟩ = some (.int .i64 r.nodes) := hb.cell 0
  have f0 := hb.free 0
  have cg : w1.cell? ⟨w.heap.size, 5 + n, none⟩ = some (.int .i64 (r.g[n]?.getD 0)) := (hb.cell _).trans (r.cells_g n h8)
  have fg := hb.free (5 + n)
  have HB := Lib.hid hb
  have HX := Lib.hid hx
  have HZ := Lib.hid hz
  have HY := Lib.hid hy
  have HF := Lib.hid hf
  clear hf hy hz hx hb
  go_wp2_with fail
  go_quiet (fail)
  go_wp2_with fail
  refine wp_region_left (by kernel_rfl) ?_
  refine Left.headD 12 (by kernel_rfl) ?_
  simp only [List.take_succ_cons, List.take_zero, List.drop_succ_cons, List.drop_zero, Nat.reduceSub]
  repeat (quiet_step (fail))
  refine wpQuiet_nil ?_
  rintro _ ⟨nq, rfl⟩
  refine Left.tail (by kernel_rfl) ?_
  simp only [List.drop_succ_cons, List.drop_zero]
  iterate 4 go_step
  refine named ?_; intro w2 hw2
  have hb : Box w2 w.heap.size (r.setG n (r.g[n]?.getD 0)) := by
    rw [hw2]
    show Blk _ _ _ _
    rw [← RS.setG_cells r n _ h8]
    exact HB.out.drewN.set (5 + n) _
  have hx : Blk w2 (w.heap.size + 1) 41 [.int .i64 3, .int .i64 n, .int .i64 m] := by rw [hw2]; (repeat (first | with_reducible exact HX.out | with_reducible refine Blk.drewN ?_ | with_reducible refine Blk.drew ?_ | with_reducible refine Blk.alloc' ?_ | ((with_reducible refine Blk.other' ?_ ?_); · (simp; try omega)) | ((with_reducible refine Blk.rowO ?_ ?_); · (simp; try omega)) | exact HX.out))
  have hz : Blk w2 (w.heap.size + 2) 59 zs := by rw [hw2]; (repeat (first | with_reducible exact HZ.out | with_reducible refine Blk.drewN ?_ | with_reducible refine Blk.drew ?_ | with_reducible refine Blk.alloc' ?_ | ((with_reducible refine Blk.other' ?_ ?_); · (simp; try omega)) | ((with_reducible refine Blk.rowO ?_ ?_); · (simp; try omega)) | exact HZ.out))
  have hy : Blk w2 (w.heap.size + 3) 41 (wordC (0, 0, 0)) := by rw [hw2]; (repeat (first | with_reducible exact HY.out | with_reducible refine Blk.drewN ?_ | with_reducible refine Blk.drew ?_ | with_reducible refine Blk.alloc' ?_ | ((with_reducible refine Blk.other' ?_ ?_); · (simp; try omega)) | ((with_reducible refine Blk.rowO ?_ ?_); · (simp; try omega)) | exact HY.out))
  have hf : Frm w.heap.size [] w w2 := by
    rw [hw2]
    refine HF.out.trans ?_
    repeat (first | with_reducible exact Frm.refl _ _ _ | with_reducible refine Frm.drewN ?_ | with_reducible refine Frm.drew ?_ | ((with_reducible refine Frm.setCell' ?_ ?_); · first | (left; simp; done) | (right; simp; done) | (right; simp; omega)) | ((with_reducible refine Frm.setRow' ?_ ?_); · first | (left; simp; done) | (right; simp; done) | (right; simp; omega)) | ((with_reducible refine Frm.alloc' ?_ ?_); · first | exact Nat.le_refl _ | (simp; done) | (simp; omega)))
  clear hw2 cg fg c0 f0 x0 x1 x2 HB HX HZ HY HF
  have x0 := hx.cell 0
  have x1 := hx.cell 1
  have x2 := hx.cell 2
  simp only [List.getElem?_cons_succ, List.getElem?_cons_zero] at x0 x1 x2
  have c3 : w2.cell? ⟨w.heap.size, 3, none⟩ = some (.int .i64 r.now) := hb.cell 3
  have f3 := hb.free 3
  have c4 : w2.cell? ⟨w.heap.size, 4, none⟩ = some (.int .i64 r.wanted) := hb.cell 4
  have f4 := hb.free 4
  have c14 : w2.cell? ⟨w.heap.size, 14, none⟩ = some (.int .i64 r.lease) := hb.cell 14
  have f14 := hb.free 14
  have c15 : w2.cell? ⟨w.heap.size, 15, none⟩ = some (.int .i64 r.number) := hb.cell 15
  have f15 := hb.free 15
  have c16 : w2.cell? ⟨w.heap.size, 16, none⟩ = some (.int .i64 r.since) := hb.cell 16
  have f16 := hb.free 16
  have HB := Lib.hid hb
  have HX := Lib.hid hx
  have HZ := Lib.hid hz
  have HY := Lib.hid hy
  have HF := Lib.hid hf
  clear hf hy hz hx hb
  go_wp2_with (first
    | (with_reducible refine atLoad 59 rfl ?_; refine wpList_loadB (ty := 59) rfl rfl (show Box _ _ { r.setG n (r.g[n]?.getD 0) with lease := 0 } from HB.out.set 14 _) rfl Try.underlying59 rfl (RS.info _) ?_)
    | (with_reducible refine atStore 59 rfl ?_; refine wpList_storeB (ty := 59) rfl rfl (b := w.heap.size + 2) (T := 59) (old := zs) ?_ rfl rfl (hz1.trans (RS.len _).symm) (RS.info _) (RS.one _) ?_; (· (repeat (first | with_reducible exact HZ.out | with_reducible refine Blk.drewN ?_ | with_reducible refine Blk.drew ?_ | with_reducible refine Blk.alloc' ?_ | ((with_reducible refine Blk.other' ?_ ?_); · (simp; try omega)) | ((with_reducible refine Blk.rowO ?_ ?_); · (simp; try omega)) | exact HZ.out))))
    | (with_reducible refine atStore 41 rfl ?_; refine wpList_storeB (P := Try.prog) (ty := 41) (cs := wordC (0, 0, 0)) rfl rfl (b := w.heap.size + 3) (T := 41) (old := wordC (0, 0, 0)) ?_ rfl rfl rfl (word_info _) (word_one _) ?_; (· (repeat (first | with_reducible exact HY.out | with_reducible refine Blk.drewN ?_ | with_reducible refine Blk.drew ?_ | with_reducible refine Blk.alloc' ?_ | ((with_reducible refine Blk.other' ?_ ?_); · (simp; try omega)) | ((with_reducible refine Blk.rowO ?_ ?_); · (simp; try omega)) | exact HY.out)))))
  try simp only [Exit.inBlock, Exit.then]
  refine bodyPost_ret (v := hearV { r.setG n (r.g[n]?.getD 0) with lease := 0 } (0, 0, 0) 0) ?_ rfl ⟨rfl, ?_⟩
  · refine results_cct Try.results32 (cs := RS.cells { r.setG n (r.g[n]?.getD 0) with lease := 0 }) (cs2 := wordC (0, 0, 0)) (Blk.rowO (by simp) (Blk.row (T := 59) (old := zs) (by (repeat (first | with_reducible exact HZ.out | with_reducible refine Blk.drewN ?_ | with_reducible refine Blk.drew ?_ | with_reducible refine Blk.alloc' ?_ | ((with_reducible refine Blk.other' ?_ ?_); · (simp; try omega)) | ((with_reducible refine Blk.rowO ?_ ?_); · (simp; try omega)) | exact HZ.out))) _)) rfl Try.underlying59 rfl (RS.info _) (Blk.row (T := 41) (old := wordC (0, 0, 0)) (by (repeat (first | with_reducible exact HY.out | with_reducible refine Blk.drewN ?_ | with_reducible refine Blk.drew ?_ | with_reducible refine Blk.alloc' ?_ | ((with_reducible refine Blk.other' ?_ ?_); · (simp; try omega)) | ((with_reducible refine Blk.rowO ?_ ?_); · (simp; try omega)) | exact HY.out))) _) rfl Try.underlying41 rfl (word_info _)
  · refine HF.out.trans ?_
    repeat (first | with_reducible exact Frm.refl _ _ _ | with_reducible refine Frm.drewN ?_ | with_reducible refine Frm.drew ?_ | ((with_reducible refine Frm.setCell' ?_ ?_); · first | (left; simp; done) | (right; simp; done) | (right; simp; omega)) | ((with_reducible refine Frm.setRow' ?_ ?_); · first | (left; simp; done) | (right; simp; done) | (right; simp; omega)) | ((with_reducible refine Frm.alloc' ?_ ?_); · first | exact Nat.le_refl _ | (simp; done) | (simp; omega)))

set_option maxRecDepth 100000 in
set_option maxHeartbeats 4000000 in
theorem refHear1_old (r : RS) (n : Nat) (m : Int) (w : World) (hv : wordB 1 n m = true) (hn : n ≤ r.nodes) (h8 : n ≤ 8) (tm : ¬ r.g[n]?.getD 0 < m) :
    Calls Try.prog 32 #[r.val, .agg (wordC (1, (n : Int), m)).toArray] w fun e w' => e = .returned (hearV (r.setG n (r.g[n]?.getD 0)) (0, 0, 0) 0) ∧ Frm w.heap.size [] w w' := by
  have HV := Lib.hid hv
  clear hv
  have hn0 : (0 : Int) ≤ (n : Int) := by omega
  have h9 : (n : Int) < 9 := by omega
  have tn : m ≤ r.g[n]?.getD 0 := by omega
  go_enter Try.func32, Try.ntmps32
  iterate 19 go_step
  refine named ?_; intro W hW
  have hb : Box W w.heap.size r := by rw [hW]; repeat (first | exact Blk.new w 59 r.cells | refine Blk.alloc' ?_)
  have hx : Blk W (w.heap.size + 1) 41 [.int .i64 1, .int .i64 n, .int .i64 m] := by rw [hW]; repeat (first | exact Blk.new' _ 41 [.int .i64 1, .int .i64 n, .int .i64 m] (by simp) | refine Blk.alloc' ?_)
  obtain ⟨zs, hz1, hz⟩ : ∃ zs, zs.length = 17 ∧ Blk W (w.heap.size + 2) 59 zs := ⟨zero59, rfl, by rw [hW]; repeat (first | exact Blk.new' _ 59 zero59 (by simp) | refine Blk.alloc' ?_)⟩
  have hy : Blk W (w.heap.size + 3) 41 [.int .i64 0, .int .i64 0, .int .i64 0] := by rw [hW]; exact Blk.new' _ 41 [.int .i64 0, .int .i64 0, .int .i64 0] (by simp)
  have hf : Frm w.heap.size [] w W := by rw [hW]; repeat (first | with_reducible exact Frm.refl _ _ _ | with_reducible refine Frm.drewN ?_ | with_reducible refine Frm.drew ?_ | ((with_reducible refine Frm.setCell' ?_ ?_); · first | (left; simp; done) | (right; simp; done) | (right; simp; omega)) | ((with_reducible refine Frm.alloc' ?_ ?_); · first | exact Nat.le_refl _ | (simp; done) | (simp; omega)))
  have hs : W.heap.size = w.heap.size + 4 := by rw [hW]; simp
  clear hW
  have x0 := hx.cell 0
  have x1 := hx.cell 1
  have x2 := hx.cell 2
  simp only [List.getElem?_cons_succ, List.getElem?_cons_zero] at x0 x1 x2
  have HB := Lib.hid hb
  have HX := Lib.hid hx
  have HZ := Lib.hid hz
  have HY := Lib.hid hy
  have HF := Lib.hid hf
  have HS := Lib.hid hs
  clear hb hx hz hy hf hs
  go_wp2_with fail
  refine (refWord_frm _ _ _ _).mono ?_; rintro e w1 ⟨rfl, hf1⟩; rw [HV.out]
  clear x0 x1 x2
  have q0 := HS.out
  have hb : Box w1 w.heap.size r := hf1.blk HB.out (by omega) (by simp)
  have hx : Blk w1 (w.heap.size + 1) 41 [.int .i64 1, .int .i64 n, .int .i64 m] := hf1.blk HX.out (by omega) (by simp)
  have hz : Blk w1 (w.heap.size + 2) 59 zs := hf1.blk HZ.out (by omega) (by simp)
  have hy : Blk w1 (w.heap.size + 3) 41 [.int .i64 0, .int .i64 0, .int .i64 0] := hf1.blk HY.out (by omega) (by simp)
  have hf : Frm w.heap.size [] w w1 := HF.out.call hf1 (by omega) (by simp)
  clear hf1 q0 HB HX HZ HY HF HS
  have x0 := hx.cell 0
  have x1 := hx.cell 1
  have x2 := hx.cell 2
  simp only [List.getElem?_cons_succ, List.getElem?_cons_zero] at x0 x1 x2
  have c0 : w1.cell? ⟨w.heap.size, 0, none⟩ = some (.int .i64 r.nodes) := hb.cell 0
  have f0 := hb.free 0
  have cg : w1.cell? ⟨w.heap.size, 5 + n, none⟩ = some (.int .i64 (r.g[n]?.getD 0)) := (hb.cell _).trans (r.cells_g n h8)
  have fg := hb.free (5 + n)
  have HB := Lib.hid hb
  have HX := Lib.hid hx
  have HZ := Lib.hid hz
  have HY := Lib.hid hy
  have HF := Lib.hid hf
  clear hf hy hz hx hb
  go_wp2_with fail
  go_quiet (fail)
  go_wp2_with fail
  refine wp_region_left (by kernel_rfl) ?_
  refine Left.headD 12 (by kernel_rfl) ?_
  simp only [List.take_succ_cons, List.take_zero, List.drop_succ_cons, List.drop_zero, Nat.reduceSub]
  repeat (quiet_step (fail))
  refine wpQuiet_nil ?_
  rintro _ ⟨nq, rfl⟩
  refine Left.tail (by kernel_rfl) ?_
  simp only [List.drop_succ_cons, List.drop_zero]
  iterate 4 go_step
  refine named ?_; intro w2 hw2
  have hb : Box w2 w.heap.size (r.setG n (r.g[n]?.getD 0)) := by
    rw [hw2]
    show Blk _ _ _ _
    rw [← RS.setG_cells r n _ h8]
    exact HB.out.drewN.set (5 + n) _
  have hx : Blk w2 (w.heap.size + 1) 41 [.int .i64 1, .int .i64 n, .int .i64 m] := by rw [hw2]; (repeat (first | with_reducible exact HX.out | with_reducible refine Blk.drewN ?_ | with_reducible refine Blk.drew ?_ | with_reducible refine Blk.alloc' ?_ | ((with_reducible refine Blk.other' ?_ ?_); · (simp; try omega)) | ((with_reducible refine Blk.rowO ?_ ?_); · (simp; try omega)) | exact HX.out))
  have hz : Blk w2 (w.heap.size + 2) 59 zs := by rw [hw2]; (repeat (first | with_reducible exact HZ.out | with_reducible refine Blk.drewN ?_ | with_reducible refine Blk.drew ?_ | with_reducible refine Blk.alloc' ?_ | ((with_reducible refine Blk.other' ?_ ?_); · (simp; try omega)) | ((with_reducible refine Blk.rowO ?_ ?_); · (simp; try omega)) | exact HZ.out))
  have hy : Blk w2 (w.heap.size + 3) 41 (wordC (0, 0, 0)) := by rw [hw2]; (repeat (first | with_reducible exact HY.out | with_reducible refine Blk.drewN ?_ | with_reducible refine Blk.drew ?_ | with_reducible refine Blk.alloc' ?_ | ((with_reducible refine Blk.other' ?_ ?_); · (simp; try omega)) | ((with_reducible refine Blk.rowO ?_ ?_); · (simp; try omega)) | exact HY.out))
  have hf : Frm w.heap.size [] w w2 := by
    rw [hw2]
    refine HF.out.trans ?_
    repeat (first | with_reducible exact Frm.refl _ _ _ | with_reducible refine Frm.drewN ?_ | with_reducible refine Frm.drew ?_ | ((with_reducible refine Frm.setCell' ?_ ?_); · first | (left; simp; done) | (right; simp; done) | (right; simp; omega)) | ((with_reducible refine Frm.setRow' ?_ ?_); · first | (left; simp; done) | (right; simp; done) | (right; simp; omega)) | ((with_reducible refine Frm.alloc' ?_ ?_); · first | exact Nat.le_refl _ | (simp; done) | (simp; omega)))
  clear hw2 cg fg c0 f0 x0 x1 x2 HB HX HZ HY HF
  have x0 := hx.cell 0
  have x1 := hx.cell 1
  have x2 := hx.cell 2
  simp only [List.getElem?_cons_succ, List.getElem?_cons_zero] at x0 x1 x2
  have c3 : w2.cell? ⟨w.heap.size, 3, none⟩ = some (.int .i64 r.now) := hb.cell 3
  have f3 := hb.free 3
  have c4 : w2.cell? ⟨w.heap.size, 4, none⟩ = some (.int .i64 r.wanted) := hb.cell 4
  have f4 := hb.free 4
  have c14 : w2.cell? ⟨w.heap.size, 14, none⟩ = some (.int .i64 r.lease) := hb.cell 14
  have f14 := hb.free 14
  have c15 : w2.cell? ⟨w.heap.size, 15, none⟩ = some (.int .i64 r.number) := hb.cell 15
  have f15 := hb.free 15
  have c16 : w2.cell? ⟨w.heap.size, 16, none⟩ = some (.int .i64 r.since) := hb.cell 16
  have f16 := hb.free 16
  have HB := Lib.hid hb
  have HX := Lib.hid hx
  have HZ := Lib.hid hz
  have HY := Lib.hid hy
  have HF := Lib.hid hf
  clear hf hy hz hx hb
  go_wp2_with (first
    | (with_reducible refine atLoad 59 rfl ?_; refine wpList_loadB (ty := 59) (b := w.heap.size) (T := 59) (cs := RS.cells (r.setG n (r.g[n]?.getD 0))) rfl rfl ?_ rfl Try.underlying59 rfl (RS.info _) ?_; (· (repeat (first | with_reducible exact HB.out | with_reducible refine Blk.drewN ?_ | with_reducible refine Blk.drew ?_ | with_reducible refine Blk.alloc' ?_ | ((with_reducible refine Blk.other' ?_ ?_); · (simp; try omega)) | ((with_reducible refine Blk.rowO ?_ ?_); · (simp; try omega)) | exact HB.out))))
    | (with_reducible refine atStore 59 rfl ?_; refine wpList_storeB (ty := 59) rfl rfl (b := w.heap.size + 2) (T := 59) (old := zs) ?_ rfl rfl (hz1.trans (RS.len _).symm) (RS.info _) (RS.one _) ?_; (· (repeat (first | with_reducible exact HZ.out | with_reducible refine Blk.drewN ?_ | with_reducible refine Blk.drew ?_ | with_reducible refine Blk.alloc' ?_ | ((with_reducible refine Blk.other' ?_ ?_); · (simp; try omega)) | ((with_reducible refine Blk.rowO ?_ ?_); · (simp; try omega)) | exact HZ.out))))
    | (with_reducible refine atStore 41 rfl ?_; refine wpList_storeB (P := Try.prog) (ty := 41) (cs := wordC (0, 0, 0)) rfl rfl (b := w.heap.size + 3) (T := 41) (old := wordC (0, 0, 0)) ?_ rfl rfl rfl (word_info _) (word_one _) ?_; (· (repeat (first | with_reducible exact HY.out | with_reducible refine Blk.drewN ?_ | with_reducible refine Blk.drew ?_ | with_reducible refine Blk.alloc' ?_ | ((with_reducible refine Blk.other' ?_ ?_); · (simp; try omega)) | ((with_reducible refine Blk.rowO ?_ ?_); · (simp; try omega)) | exact HY.out)))))
  try simp only [Exit.inBlock, Exit.then]
  refine bodyPost_ret (v := hearV (r.setG n (r.g[n]?.getD 0)) (0, 0, 0) 0) ?_ rfl ⟨rfl, ?_⟩
  · refine results_cct Try.results32 (cs := RS.cells (r.setG n (r.g[n]?.getD 0))) (cs2 := wordC (0, 0, 0)) (Blk.rowO (by simp) (Blk.row (T := 59) (old := zs) (by (repeat (first | with_reducible exact HZ.out | with_reducible refine Blk.drewN ?_ | with_reducible refine Blk.drew ?_ | with_reducible refine Blk.alloc' ?_ | ((with_reducible refine Blk.other' ?_ ?_); · (simp; try omega)) | ((with_reducible refine Blk.rowO ?_ ?_); · (simp; try omega)) | exact HZ.out))) _)) rfl Try.underlying59 rfl (RS.info _) (Blk.row (T := 41) (old := wordC (0, 0, 0)) (by (repeat (first | with_reducible exact HY.out | with_reducible refine Blk.drewN ?_ | with_reducible refine Blk.drew ?_ | with_reducible refine Blk.alloc' ?_ | ((with_reducible refine Blk.other' ?_ ?_); · (simp; try omega)) | ((with_reducible refine Blk.rowO ?_ ?_); · (simp; try omega)) | exact HY.out))) _) rfl Try.underlying41 rfl (word_info _)
  · refine HF.out.trans ?_
    repeat (first | with_reducible exact Frm.refl _ _ _ | with_reducible refine Frm.drewN ?_ | with_reducible refine Frm.drew ?_ | ((with_reducible refine Frm.setCell' ?_ ?_); · first | (left; simp; done) | (right; simp; done) | (right; simp; omega)) | ((with_reducible refine Frm.setRow' ?_ ?_); · first | (left; simp; done) | (right; simp; done) | (right; simp; omega)) | ((with_reducible refine Frm.alloc' ?_ ?_); · first | exact Nat.le_refl _ | (simp; done) | (simp; omega)))

set_option maxRecDepth 100000 in
set_option maxHeartbeats 4000000 in
theorem refHear1_other (r : RS) (n : Nat) (m : Int) (w : World) (hv : wordB 1 n m = true) (hn : n ≤ r.nodes) (h8 : n ≤ 8) (tm : r.g[n]?.getD 0 < m) (t1 : ¬ r.wanted = n) (t0 : ¬ (n : Int) = r.wanted) :
    Calls Try.prog 32 #[r.val, .agg (wordC (1, (n : Int), m)).toArray] w fun e w' => e = .returned (hearV (r.setG n m) (0, 0, 0) 0) ∧ Frm w.heap.size [] w w' := by
  have HV := Lib.hid hv
  clear hv
  have hn0 : (0 : Int) ≤ (n : Int) := by omega
  have h9 : (n : Int) < 9 := by omega
  have tn : ¬ m ≤ r.g[n]?.getD 0 := by omega
  have td : decide (m ≤ r.g[n]?.getD 0) = false := by simpa using tm
  go_enter Try.func32, Try.ntmps32
  iterate 19 go_step
  refine named ?_; intro W hW
  have hb : Box W w.heap.size r := by rw [hW]; repeat (first | exact Blk.new w 59 r.cells | refine Blk.alloc' ?_)
  have hx : Blk W (w.heap.size + 1) 41 [.int .i64 1, .int .i64 n, .int .i64 m] := by rw [hW]; repeat (first | exact Blk.new' _ 41 [.int .i64 1, .int .i64 n, .int .i64 m] (by simp) | refine Blk.alloc' ?_)
  obtain ⟨zs, hz1, hz⟩ : ∃ zs, zs.length = 17 ∧ Blk W (w.heap.size + 2) 59 zs := ⟨zero59, rfl, by rw [hW]; repeat (first | exact Blk.new' _ 59 zero59 (by simp) | refine Blk.alloc' ?_)⟩
  have hy : Blk W (w.heap.size + 3) 41 [.int .i64 0, .int .i64 0, .int .i64 0] := by rw [hW]; exact Blk.new' _ 41 [.int .i64 0, .int .i64 0, .int .i64 0] (by simp)
  have hf : Frm w.heap.size [] w W := by rw [hW]; repeat (first | with_reducible exact Frm.refl _ _ _ | with_reducible refine Frm.drewN ?_ | with_reducible refine Frm.drew ?_ | ((with_reducible refine Frm.setCell' ?_ ?_); · first | (left; simp; done) | (right; simp; done) | (right; simp; omega)) | ((with_reducible refine Frm.alloc' ?_ ?_); · first | exact Nat.le_refl _ | (simp; done) | (simp; omega)))
  have hs : W.heap.size = w.heap.size + 4 := by rw [hW]; simp
  clear hW
  have x0 := hx.cell 0
  have x1 := hx.cell 1
  have x2 := hx.cell 2
  simp only [List.getElem?_cons_succ, List.getElem?_cons_zero] at x0 x1 x2
  have HB := Lib.hid hb
  have HX := Lib.hid hx
  have HZ := Lib.hid hz
  have HY := Lib.hid hy
  have HF := Lib.hid hf
  have HS := Lib.hid hs
  clear hb hx hz hy hf hs
  go_wp2_with fail
  refine (refWord_frm _ _ _ _).mono ?_; rintro e w1 ⟨rfl, hf1⟩; rw [HV.out]
  clear x0 x1 x2
  have q0 := HS.out
  have hb : Box w1 w.heap.size r := hf1.blk HB.out (by omega) (by simp)
  have hx : Blk w1 (w.heap.size + 1) 41 [.int .i64 1, .int .i64 n, .int .i64 m] := hf1.blk HX.out (by omega) (by simp)
  have hz : Blk w1 (w.heap.size + 2) 59 zs := hf1.blk HZ.out (by omega) (by simp)
  have hy : Blk w1 (w.heap.size + 3) 41 [.int .i64 0, .int .i64 0, .int .i64 0] := hf1.blk HY.out (by omega) (by simp)
  have hf : Frm w.heap.size [] w w1 := HF.out.call hf1 (by omega) (by simp)
  clear hf1 q0 HB HX HZ HY HF HS
  have x0 := hx.cell 0
  have x1 := hx.cell 1
  have x2 := hx.cell 2
  simp only [List.getElem?_cons_succ, List.getElem?_cons_zero] at x0 x1 x2
  have c0 : w1.cell? ⟨w.heap.size, 0, none⟩ = some (.int .i64 r.nodes) := hb.cell 0
  have f0 := hb.free 0
  have cg : w1.cell? ⟨w.heap.size, 5 + n, none⟩ = some (.int .i64 (r.g[n]?.getD 0)) := (hb.cell _).trans (r.cells_g n h8)
  have fg := hb.free (5 + n)
  have HB := Lib.hid hb
  have HX := Lib.hid hx
  have HZ := Lib.hid hz
  have HY := Lib.hid hy
  have HF := Lib.hid hf
  clear hf hy hz hx hb
  go_wp2_with fail
  go_quiet (fail)
  go_wp2_with fail
  refine wp_region_left (by kernel_rfl) ?_
  refine Left.headD 12 (by kernel_rfl) ?_
  simp only [List.take_succ_cons, List.take_zero, List.drop_succ_cons, List.drop_zero, Nat.reduceSub]
  repeat (quiet_step (fail))
  refine wpQuiet_nil ?_
  rintro _ ⟨nq, rfl⟩
  refine Left.tail (by kernel_rfl) ?_
  simp only [List.drop_succ_cons, List.drop_zero]
  iterate 4 go_step
  refine named ?_; intro w2 hw2
  have hb : Box w2 w.heap.size (r.setG n m) := by
    rw [hw2]
    show Blk _ _ _ _
    rw [← RS.setG_cells r n _ h8]
    exact HB.out.drewN.set (5 + n) _
  have hx : Blk w2 (w.heap.size + 1) 41 [.int .i64 1, .int .i64 n, .int .i64 m] := by rw [hw2]; (repeat (first | with_reducible exact HX.out | with_reducible refine Blk.drewN ?_ | with_reducible refine Blk.drew ?_ | with_reducible refine Blk.alloc' ?_ | ((with_reducible refine Blk.other' ?_ ?_); · (simp; try omega)) | ((with_reducible refine Blk.rowO ?_ ?_); · (simp; try omega)) | exact HX.out))
  have hz : Blk w2 (w.heap.size + 2) 59 zs := by rw [hw2]; (repeat (first | with_reducible exact HZ.out | with_reducible refine Blk.drewN ?_ | with_reducible refine Blk.drew ?_ | with_reducible refine Blk.alloc' ?_ | ((with_reducible refine Blk.other' ?_ ?_); · (simp; try omega)) | ((with_reducible refine Blk.rowO ?_ ?_); · (simp; try omega)) | exact HZ.out))
  have hy : Blk w2 (w.heap.size + 3) 41 (wordC (0, 0, 0)) := by rw [hw2]; (repeat (first | with_reducible exact HY.out | with_reducible refine Blk.drewN ?_ | with_reducible refine Blk.drew ?_ | with_reducible refine Blk.alloc' ?_ | ((with_reducible refine Blk.other' ?_ ?_); · (simp; try omega)) | ((with_reducible refine Blk.rowO ?_ ?_); · (simp; try omega)) | exact HY.out))
  have hf : Frm w.heap.size [] w w2 := by
    rw [hw2]
    refine HF.out.trans ?_
    repeat (first | with_reducible exact Frm.refl _ _ _ | with_reducible refine Frm.drewN ?_ | with_reducible refine Frm.drew ?_ | ((with_reducible refine Frm.setCell' ?_ ?_); · first | (left; simp; done) | (right; simp; done) | (right; simp; omega)) | ((with_reducible refine Frm.setRow' ?_ ?_); · first | (left; simp; done) | (right; simp; done) | (right; simp; omega)) | ((with_reducible refine Frm.alloc' ?_ ?_); · first | exact Nat.le_refl _ | (simp; done) | (simp; omega)))
  clear hw2 cg fg c0 f0 x0 x1 x2 HB HX HZ HY HF
  have x0 := hx.cell 0
  have x1 := hx.cell 1
  have x2 := hx.cell 2
  simp only [List.getElem?_cons_succ, List.getElem?_cons_zero] at x0 x1 x2
  have c3 : w2.cell? ⟨w.heap.size, 3, none⟩ = some (.int .i64 r.now) := hb.cell 3
  have f3 := hb.free 3
  have c4 : w2.cell? ⟨w.heap.size, 4, none⟩ = some (.int .i64 r.wanted) := hb.cell 4
  have f4 := hb.free 4
  have c14 : w2.cell? ⟨w.heap.size, 14, none⟩ = some (.int .i64 r.lease) := hb.cell 14
  have f14 := hb.free 14
  have c15 : w2.cell? ⟨w.heap.size, 15, none⟩ = some (.int .i64 r.number) := hb.cell 15
  have f15 := hb.free 15
  have c16 : w2.cell? ⟨w.heap.size, 16, none⟩ = some (.int .i64 r.since) := hb.cell 16
  have f16 := hb.free 16
  have HB := Lib.hid hb
  have HX := Lib.hid hx
  have HZ := Lib.hid hz
  have HY := Lib.hid hy
  have HF := Lib.hid hf
  clear hf hy hz hx hb
  go_wp2_with (first
    | (with_reducible refine atLoad 59 rfl ?_; refine wpList_loadB (ty := 59) (b := w.heap.size) (T := 59) (cs := RS.cells (r.setG n m)) rfl rfl ?_ rfl Try.underlying59 rfl (RS.info _) ?_; (· (repeat (first | with_reducible exact HB.out | with_reducible refine Blk.drewN ?_ | with_reducible refine Blk.drew ?_ | with_reducible refine Blk.alloc' ?_ | ((with_reducible refine Blk.other' ?_ ?_); · (simp; try omega)) | ((with_reducible refine Blk.rowO ?_ ?_); · (simp; try omega)) | exact HB.out))))
    | (with_reducible refine atStore 59 rfl ?_; refine wpList_storeB (ty := 59) rfl rfl (b := w.heap.size + 2) (T := 59) (old := zs) ?_ rfl rfl (hz1.trans (RS.len _).symm) (RS.info _) (RS.one _) ?_; (· (repeat (first | with_reducible exact HZ.out | with_reducible refine Blk.drewN ?_ | with_reducible refine Blk.drew ?_ | with_reducible refine Blk.alloc' ?_ | ((with_reducible refine Blk.other' ?_ ?_); · (simp; try omega)) | ((with_reducible refine Blk.rowO ?_ ?_); · (simp; try omega)) | exact HZ.out))))
    | (with_reducible refine atStore 41 rfl ?_; refine wpList_storeB (P := Try.prog) (ty := 41) (cs := wordC (0, 0, 0)) rfl rfl (b := w.heap.size + 3) (T := 41) (old := wordC (0, 0, 0)) ?_ rfl rfl rfl (word_info _) (word_one _) ?_; (· (repeat (first | with_reducible exact HY.out | with_reducible refine Blk.drewN ?_ | with_reducible refine Blk.drew ?_ | with_reducible refine Blk.alloc' ?_ | ((with_reducible refine Blk.other' ?_ ?_); · (simp; try omega)) | ((with_reducible refine Blk.rowO ?_ ?_); · (simp; try omega)) | exact HY.out)))))
  try simp only [Exit.inBlock, Exit.then]
  refine bodyPost_ret (v := hearV (r.setG n m) (0, 0, 0) 0) ?_ rfl ⟨rfl, ?_⟩
  · refine results_cct Try.results32 (cs := RS.cells (r.setG n m)) (cs2 := wordC (0, 0, 0)) (Blk.rowO (by simp) (Blk.row (T := 59) (old := zs) (by (repeat (first | with_reducible exact HZ.out | with_reducible refine Blk.drewN ?_ | with_reducible refine Blk.drew ?_ | with_reducible refine Blk.alloc' ?_ | ((with_reducible refine Blk.other' ?_ ?_); · (simp; try omega)) | ((with_reducible refine Blk.rowO ?_ ?_); · (simp; try omega)) | exact HZ.out))) _)) rfl Try.underlying59 rfl (RS.info _) (Blk.row (T := 41) (old := wordC (0, 0, 0)) (by (repeat (first | with_reducible exact HY.out | with_reducible refine Blk.drewN ?_ | with_reducible refine Blk.drew ?_ | with_reducible refine Blk.alloc' ?_ | ((with_reducible refine Blk.other' ?_ ?_); · (simp; try omega)) | ((with_reducible refine Blk.rowO ?_ ?_); · (simp; try omega)) | exact HY.out))) _) rfl Try.underlying41 rfl (word_info _)
  · refine HF.out.trans ?_
    repeat (first | with_reducible exact Frm.refl _ _ _ | with_reducible refine Frm.drewN ?_ | with_reducible refine Frm.drew ?_ | ((with_reducible refine Frm.setCell' ?_ ?_); · first | (left; simp; done) | (right; simp; done) | (right; simp; omega)) | ((with_reducible refine Frm.setRow' ?_ ?_); · first | (left; simp; done) | (right; simp; done) | (right; simp; omega)) | ((with_reducible refine Frm.alloc' ?_ ?_); · first | exact Nat.le_refl _ | (simp; done) | (simp; omega)))

set_option maxRecDepth 100000 in
set_option maxHeartbeats 4000000 in
theorem refHear1_let (r : RS) (n : Nat) (m : Int) (w : World) (hv : wordB 1 n m = true) (hn : n ≤ r.nodes) (h8 : n ≤ 8) (tm : r.g[n]?.getD 0 < m) (t1 : r.wanted = n) (t2 : ¬ r.lease = 0) (t3 : ¬ r.lease = n) :
    Calls Try.prog 32 #[r.val, .agg (wordC (1, (n : Int), m)).toArray] w fun e w' => e = .returned (hearV (r.setG n m) (0, 0, 0) 0) ∧ Frm w.heap.size [] w w' := by
  have HV := Lib.hid hv
  clear hv
  have hn0 : (0 : Int) ≤ (n : Int) := by omega
  have h9 : (n : Int) < 9 := by omega
  have tn : ¬ m ≤ r.g[n]?.getD 0 := by omega
  have td : decide (m ≤ r.g[n]?.getD 0) = false := by simpa using tm
  have e2 : (r.lease == 0) = false := by simpa using t2
  have e3 : (r.lease == (n : Int)) = false := by simpa using t3
  go_enter Try.func32, Try.ntmps32
  iterate 19 go_step
  refine named ?_; intro W hW
  have hb : Box W w.heap.size r := by rw [hW]; repeat (first | exact Blk.new w 59 r.cells | refine Blk.alloc' ?_)
  have hx : Blk W (w.heap.size + 1) 41 [.int .i64 1, .int .i64 n, .int .i64 m] := by rw [hW]; repeat (first | exact Blk.new' _ 41 [.int .i64 1, .int .i64 n, .int .i64 m] (by simp) | refine Blk.alloc' ?_)
  obtain ⟨zs, hz1, hz⟩ : ∃ zs, zs.length = 17 ∧ Blk W (w.heap.size + 2) 59 zs := ⟨zero59, rfl, by rw [hW]; repeat (first | exact Blk.new' _ 59 zero59 (by simp) | refine Blk.alloc' ?_)⟩
  have hy : Blk W (w.heap.size + 3) 41 [.int .i64 0, .int .i64 0, .int .i64 0] := by rw [hW]; exact Blk.new' _ 41 [.int .i64 0, .int .i64 0, .int .i64 0] (by simp)
  have hf : Frm w.heap.size [] w W := by rw [hW]; repeat (first | with_reducible exact Frm.refl _ _ _ | with_reducible refine Frm.drewN ?_ | with_reducible refine Frm.drew ?_ | ((with_reducible refine Frm.setCell' ?_ ?_); · first | (left; simp; done) | (right; simp; done) | (right; simp; omega)) | ((with_reducible refine Frm.alloc' ?_ ?_); · first | exact Nat.le_refl _ | (simp; done) | (simp; omega)))
  have hs : W.heap.size = w.heap.size + 4 := by rw [hW]; simp
  clear hW
  have x0 := hx.cell 0
  have x1 := hx.cell 1
  have x2 := hx.cell 2
  simp only [List.getElem?_cons_succ, List.getElem?_cons_zero] at x0 x1 x2
  have HB := Lib.hid hb
  have HX := Lib.hid hx
  have HZ := Lib.hid hz
  have HY := Lib.hid hy
  have HF := Lib.hid hf
  have HS := Lib.hid hs
  clear hb hx hz hy hf hs
  go_wp2_with fail
  refine (refWord_frm _ _ _ _).mono ?_; rintro e w1 ⟨rfl, hf1⟩; rw [HV.out]
  clear x0 x1 x2
  have q0 := HS.out
  have hb : Box w1 w.heap.size r := hf1.blk HB.out (by omega) (by simp)
  have hx : Blk w1 (w.heap.size + 1) 41 [.int .i64 1, .int .i64 n, .int .i64 m] := hf1.blk HX.out (by omega) (by simp)
  have hz : Blk w1 (w.heap.size + 2) 59 zs := hf1.blk HZ.out (by omega) (by simp)
  have hy : Blk w1 (w.heap.size + 3) 41 [.int .i64 0, .int .i64 0, .int .i64 0] := hf1.blk HY.out (by omega) (by simp)
  have hf : Frm w.heap.size [] w w1 := HF.out.call hf1 (by omega) (by simp)
  clear hf1 q0 HB HX HZ HY HF HS
  have x0 := hx.cell 0
  have x1 := hx.cell 1
  have x2 := hx.cell 2
  simp only [List.getElem?_cons_succ, List.getElem?_cons_zero] at x0 x1 x2
  have c0 : w1.cell? ⟨w.heap.size, 0, none⟩ = some (.int .i64 r.nodes) := hb.cell 0
  have f0 := hb.free 0
  have cg : w1.cell? ⟨w.heap.size, 5 + n, none⟩ = some (.int .i64 (r.g[n]?.getD 0)) := (hb.cell _).trans (r.cells_g n h8)
  have fg := hb.free (5 + n)
  have HB := Lib.hid hb
  have HX := Lib.hid hx
  have HZ := Lib.hid hz
  have HY := Lib.hid hy
  have HF := Lib.hid hf
  clear hf hy hz hx hb
  go_wp2_with fail
  go_quiet (fail)
  go_wp2_with fail
  refine wp_region_left (by kernel_rfl) ?_
  refine Left.headD 12 (by kernel_rfl) ?_
  simp only [List.take_succ_cons, List.take_zero, List.drop_succ_cons, List.drop_zero, Nat.reduceSub]
  repeat (quiet_step (fail))
  refine wpQuiet_nil ?_
  rintro _ ⟨nq, rfl⟩
  refine Left.tail (by kernel_rfl) ?_
  simp only [List.drop_succ_cons, List.drop_zero]
  iterate 4 go_step
  refine named ?_; intro w2 hw2
  have hb : Box w2 w.heap.size (r.setG n m) := by
    rw [hw2]
    show Blk _ _ _ _
    rw [← RS.setG_cells r n _ h8]
    exact HB.out.drewN.set (5 + n) _
  have hx : Blk w2 (w.heap.size + 1) 41 [.int .i64 1, .int .i64 n, .int .i64 m] := by rw [hw2]; (repeat (first | with_reducible exact HX.out | with_reducible refine Blk.drewN ?_ | with_reducible refine Blk.drew ?_ | with_reducible refine Blk.alloc' ?_ | ((with_reducible refine Blk.other' ?_ ?_); · (simp; try omega)) | ((with_reducible refine Blk.rowO ?_ ?_); · (simp; try omega)) | exact HX.out))
  have hz : Blk w2 (w.heap.size + 2) 59 zs := by rw [hw2]; (repeat (first | with_reducible exact HZ.out | with_reducible refine Blk.drewN ?_ | with_reducible refine Blk.drew ?_ | with_reducible refine Blk.alloc' ?_ | ((with_reducible refine Blk.other' ?_ ?_); · (simp; try omega)) | ((with_reducible refine Blk.rowO ?_ ?_); · (simp; try omega)) | exact HZ.out))
  have hy : Blk w2 (w.heap.size + 3) 41 (wordC (0, 0, 0)) := by rw [hw2]; (repeat (first | with_reducible exact HY.out | with_reducible refine Blk.drewN ?_ | with_reducible refine Blk.drew ?_ | with_reducible refine Blk.alloc' ?_ | ((with_reducible refine Blk.other' ?_ ?_); · (simp; try omega)) | ((with_reducible refine Blk.rowO ?_ ?_); · (simp; try omega)) | exact HY.out))
  have hf : Frm w.heap.size [] w w2 := by
    rw [hw2]
    refine HF.out.trans ?_
    repeat (first | with_reducible exact Frm.refl _ _ _ | with_reducible refine Frm.drewN ?_ | with_reducible refine Frm.drew ?_ | ((with_reducible refine Frm.setCell' ?_ ?_); · first | (left; simp; done) | (right; simp; done) | (right; simp; omega)) | ((with_reducible refine Frm.setRow' ?_ ?_); · first | (left; simp; done) | (right; simp; done) | (right; simp; omega)) | ((with_reducible refine Frm.alloc' ?_ ?_); · first | exact Nat.le_refl _ | (simp; done) | (simp; omega)))
  clear hw2 cg fg c0 f0 x0 x1 x2 HB HX HZ HY HF
  have x0 := hx.cell 0
  have x1 := hx.cell 1
  have x2 := hx.cell 2
  simp only [List.getElem?_cons_succ, List.getElem?_cons_zero] at x0 x1 x2
  have c3 : w2.cell? ⟨w.heap.size, 3, none⟩ = some (.int .i64 r.now) := hb.cell 3
  have f3 := hb.free 3
  have c4 : w2.cell? ⟨w.heap.size, 4, none⟩ = some (.int .i64 r.wanted) := hb.cell 4
  have f4 := hb.free 4
  have c14 : w2.cell? ⟨w.heap.size, 14, none⟩ = some (.int .i64 r.lease) := hb.cell 14
  have f14 := hb.free 14
  have c15 : w2.cell? ⟨w.heap.size, 15, none⟩ = some (.int .i64 r.number) := hb.cell 15
  have f15 := hb.free 15
  have c16 : w2.cell? ⟨w.heap.size, 16, none⟩ = some (.int .i64 r.since) := hb.cell 16
  have f16 := hb.free 16
  have HB := Lib.hid hb
  have HX := Lib.hid hx
  have HZ := Lib.hid hz
  have HY := Lib.hid hy
  have HF := Lib.hid hf
  clear hf hy hz hx hb
  go_wp2_with (first
    | (with_reducible refine atLoad 59 rfl ?_; refine wpList_loadB (ty := 59) (b := w.heap.size) (T := 59) (cs := RS.cells (r.setG n m)) rfl rfl ?_ rfl Try.underlying59 rfl (RS.info _) ?_; (· (repeat (first | with_reducible exact HB.out | with_reducible refine Blk.drewN ?_ | with_reducible refine Blk.drew ?_ | with_reducible refine Blk.alloc' ?_ | ((with_reducible refine Blk.other' ?_ ?_); · (simp; try omega)) | ((with_reducible refine Blk.rowO ?_ ?_); · (simp; try omega)) | exact HB.out))))
    | (with_reducible refine atStore 59 rfl ?_; refine wpList_storeB (ty := 59) rfl rfl (b := w.heap.size + 2) (T := 59) (old := zs) ?_ rfl rfl (hz1.trans (RS.len _).symm) (RS.info _) (RS.one _) ?_; (· (repeat (first | with_reducible exact HZ.out | with_reducible refine Blk.drewN ?_ | with_reducible refine Blk.drew ?_ | with_reducible refine Blk.alloc' ?_ | ((with_reducible refine Blk.other' ?_ ?_); · (simp; try omega)) | ((with_reducible refine Blk.rowO ?_ ?_); · (simp; try omega)) | exact HZ.out))))
    | (with_reducible refine atStore 41 rfl ?_; refine wpList_storeB (P := Try.prog) (ty := 41) (cs := wordC (0, 0, 0)) rfl rfl (b := w.heap.size + 3) (T := 41) (old := wordC (0, 0, 0)) ?_ rfl rfl rfl (word_info _) (word_one _) ?_; (· (repeat (first | with_reducible exact HY.out | with_reducible refine Blk.drewN ?_ | with_reducible refine Blk.drew ?_ | with_reducible refine Blk.alloc' ?_ | ((with_reducible refine Blk.other' ?_ ?_); · (simp; try omega)) | ((with_reducible refine Blk.rowO ?_ ?_); · (simp; try omega)) | exact HY.out)))))
  try simp only [Exit.inBlock, Exit.then]
  refine bodyPost_ret (v := hearV (r.setG n m) (0, 0, 0) 0) ?_ rfl ⟨rfl, ?_⟩
  · refine results_cct Try.results32 (cs := RS.cells (r.setG n m)) (cs2 := wordC (0, 0, 0)) (Blk.rowO (by simp) (Blk.row (T := 59) (old := zs) (by (repeat (first | with_reducible exact HZ.out | with_reducible refine Blk.drewN ?_ | with_reducible refine Blk.drew ?_ | with_reducible refine Blk.alloc' ?_ | ((with_reducible refine Blk.other' ?_ ?_); · (simp; try omega)) | ((with_reducible refine Blk.rowO ?_ ?_); · (simp; try omega)) | exact HZ.out))) _)) rfl Try.underlying59 rfl (RS.info _) (Blk.row (T := 41) (old := wordC (0, 0, 0)) (by (repeat (first | with_reducible exact HY.out | with_reducible refine Blk.drewN ?_ | with_reducible refine Blk.drew ?_ | with_reducible refine Blk.alloc' ?_ | ((with_reducible refine Blk.other' ?_ ?_); · (simp; try omega)) | ((with_reducible refine Blk.rowO ?_ ?_); · (simp; try omega)) | exact HY.out))) _) rfl Try.underlying41 rfl (word_info _)
  · refine HF.out.trans ?_
    repeat (first | with_reducible exact Frm.refl _ _ _ | with_reducible refine Frm.drewN ?_ | with_reducible refine Frm.drew ?_ | ((with_reducible refine Frm.setCell' ?_ ?_); · first | (left; simp; done) | (right; simp; done) | (right; simp; omega)) | ((with_reducible refine Frm.setRow' ?_ ?_); · first | (left; simp; done) | (right; simp; done) | (right; simp; omega)) | ((with_reducible refine Frm.alloc' ?_ ?_); · first | exact Nat.le_refl _ | (simp; done) | (simp; omega)))

set_option maxRecDepth 100000 in
set_option maxHeartbeats 4000000 in
theorem refHear1_free (r : RS) (n : Nat) (m : Int) (w : World) (hv : wordB 1 n m = true) (hn : n ≤ r.nodes) (h8 : n ≤ 8) (tm : r.g[n]?.getD 0 < m) (t1 : r.wanted = n) (t2 : r.lease = 0) :
    Calls Try.prog 32 #[r.val, .agg (wordC (1, (n : Int), m)).toArray] w fun e w' => e = .returned (hearV { r.setG n m with lease := n, number := m, since := r.now } (2, (n : Int), m) 0) ∧ Frm w.heap.size [] w w' := by
  have HV := Lib.hid hv
  clear hv
  have hn0 : (0 : Int) ≤ (n : Int) := by omega
  have h9 : (n : Int) < 9 := by omega
  have tn : ¬ m ≤ r.g[n]?.getD 0 := by omega
  have td : decide (m ≤ r.g[n]?.getD 0) = false := by simpa using tm
  go_enter Try.func32, Try.ntmps32
  iterate 19 go_step
  refine named ?_; intro W hW
  have hb : Box W w.heap.size r := by rw [hW]; repeat (first | exact Blk.new w 59 r.cells | refine Blk.alloc' ?_)
  have hx : Blk W (w.heap.size + 1) 41 [.int .i64 1, .int .i64 n, .int .i64 m] := by rw [hW]; repeat (first | exact Blk.new' _ 41 [.int .i64 1, .int .i64 n, .int .i64 m] (by simp) | refine Blk.alloc' ?_)
  obtain ⟨zs, hz1, hz⟩ : ∃ zs, zs.length = 17 ∧ Blk W (w.heap.size + 2) 59 zs := ⟨zero59, rfl, by rw [hW]; repeat (first | exact Blk.new' _ 59 zero59 (by simp) | refine Blk.alloc' ?_)⟩
  have hy : Blk W (w.heap.size + 3) 41 [.int .i64 0, .int .i64 0, .int .i64 0] := by rw [hW]; exact Blk.new' _ 41 [.int .i64 0, .int .i64 0, .int .i64 0] (by simp)
  have hf : Frm w.heap.size [] w W := by rw [hW]; repeat (first | with_reducible exact Frm.refl _ _ _ | with_reducible refine Frm.drewN ?_ | with_reducible refine Frm.drew ?_ | ((with_reducible refine Frm.setCell' ?_ ?_); · first | (left; simp; done) | (right; simp; done) | (right; simp; omega)) | ((with_reducible refine Frm.alloc' ?_ ?_); · first | exact Nat.le_refl _ | (simp; done) | (simp; omega)))
  have hs : W.heap.size = w.heap.size + 4 := by rw [hW]; simp
  clear hW
  have x0 := hx.cell 0
  have x1 := hx.cell 1
  have x2 := hx.cell 2
  simp only [List.getElem?_cons_succ, List.getElem?_cons_zero] at x0 x1 x2
  have HB := Lib.hid hb
  have HX := Lib.hid hx
  have HZ := Lib.hid hz
  have HY := Lib.hid hy
  have HF := Lib.hid hf
  have HS := Lib.hid hs
  clear hb hx hz hy hf hs
  go_wp2_with fail
  refine (refWord_frm _ _ _ _).mono ?_; rintro e w1 ⟨rfl, hf1⟩; rw [HV.out]
  clear x0 x1 x2
  have q0 := HS.out
  have hb : Box w1 w.heap.size r := hf1.blk HB.out (by omega) (by simp)
  have hx : Blk w1 (w.heap.size + 1) 41 [.int .i64 1, .int .i64 n, .int .i64 m] := hf1.blk HX.out (by omega) (by simp)
  have hz : Blk w1 (w.heap.size + 2) 59 zs := hf1.blk HZ.out (by omega) (by simp)
  have hy : Blk w1 (w.heap.size + 3) 41 [.int .i64 0, .int .i64 0, .int .i64 0] := hf1.blk HY.out (by omega) (by simp)
  have hf : Frm w.heap.size [] w w1 := HF.out.call hf1 (by omega) (by simp)
  clear hf1 q0 HB HX HZ HY HF HS
  have x0 := hx.cell 0
  have x1 := hx.cell 1
  have x2 := hx.cell 2
  simp only [List.getElem?_cons_succ, List.getElem?_cons_zero] at x0 x1 x2
  have c0 : w1.cell? ⟨w.heap.size, 0, none⟩ = some (.int .i64 r.nodes) := hb.cell 0
  have f0 := hb.free 0
  have cg : w1.cell? ⟨w.heap.size, 5 + n, none⟩ = some (.int .i64 (r.g[n]?.getD 0)) := (hb.cell _).trans (r.cells_g n h8)
  have fg := hb.free (5 + n)
  have HB := Lib.hid hb
  have HX := Lib.hid hx
  have HZ := Lib.hid hz
  have HY := Lib.hid hy
  have HF := Lib.hid hf
  clear hf hy hz hx hb
  go_wp2_with fail
  go_quiet (fail)
  go_wp2_with fail
  refine wp_region_left (by kernel_rfl) ?_
  refine Left.headD 12 (by kernel_rfl) ?_
  simp only [List.take_succ_cons, List.take_zero, List.drop_succ_cons, List.drop_zero, Nat.reduceSub]
  repeat (quiet_step (fail))
  refine wpQuiet_nil ?_
  rintro _ ⟨nq, rfl⟩
  refine Left.tail (by kernel_rfl) ?_
  simp only [List.drop_succ_cons, List.drop_zero]
  iterate 4 go_step
  refine named ?_; intro w2 hw2
  have hb : Box w2 w.heap.size (r.setG n m) := by
    rw [hw2]
    show Blk _ _ _ _
    rw [← RS.setG_cells r n _ h8]
    exact HB.out.drewN.set (5 + n) _
  have hx : Blk w2 (w.heap.size + 1) 41 [.int .i64 1, .int .i64 n, .int .i64 m] := by rw [hw2]; (repeat (first | with_reducible exact HX.out | with_reducible refine Blk.drewN ?_ | with_reducible refine Blk.drew ?_ | with_reducible refine Blk.alloc' ?_ | ((with_reducible refine Blk.other' ?_ ?_); · (simp; try omega)) | ((with_reducible refine Blk.rowO ?_ ?_); · (simp; try omega)) | exact HX.out))
  have hz : Blk w2 (w.heap.size + 2) 59 zs := by rw [hw2]; (repeat (first | with_reducible exact HZ.out | with_reducible refine Blk.drewN ?_ | with_reducible refine Blk.drew ?_ | with_reducible refine Blk.alloc' ?_ | ((with_reducible refine Blk.other' ?_ ?_); · (simp; try omega)) | ((with_reducible refine Blk.rowO ?_ ?_); · (simp; try omega)) | exact HZ.out))
  have hy : Blk w2 (w.heap.size + 3) 41 (wordC (0, 0, 0)) := by rw [hw2]; (repeat (first | with_reducible exact HY.out | with_reducible refine Blk.drewN ?_ | with_reducible refine Blk.drew ?_ | with_reducible refine Blk.alloc' ?_ | ((with_reducible refine Blk.other' ?_ ?_); · (simp; try omega)) | ((with_reducible refine Blk.rowO ?_ ?_); · (simp; try omega)) | exact HY.out))
  have hf : Frm w.heap.size [] w w2 := by
    rw [hw2]
    refine HF.out.trans ?_
    repeat (first | with_reducible exact Frm.refl _ _ _ | with_reducible refine Frm.drewN ?_ | with_reducible refine Frm.drew ?_ | ((with_reducible refine Frm.setCell' ?_ ?_); · first | (left; simp; done) | (right; simp; done) | (right; simp; omega)) | ((with_reducible refine Frm.setRow' ?_ ?_); · first | (left; simp; done) | (right; simp; done) | (right; simp; omega)) | ((with_reducible refine Frm.alloc' ?_ ?_); · first | exact Nat.le_refl _ | (simp; done) | (simp; omega)))
  clear hw2 cg fg c0 f0 x0 x1 x2 HB HX HZ HY HF
  have x0 := hx.cell 0
  have x1 := hx.cell 1
  have x2 := hx.cell 2
  simp only [List.getElem?_cons_succ, List.getElem?_cons_zero] at x0 x1 x2
  have c3 : w2.cell? ⟨w.heap.size, 3, none⟩ = some (.int .i64 r.now) := hb.cell 3
  have f3 := hb.free 3
  have c4 : w2.cell? ⟨w.heap.size, 4, none⟩ = some (.int .i64 r.wanted) := hb.cell 4
  have f4 := hb.free 4
  have c14 : w2.cell? ⟨w.heap.size, 14, none⟩ = some (.int .i64 r.lease) := hb.cell 14
  have f14 := hb.free 14
  have c15 : w2.cell? ⟨w.heap.size, 15, none⟩ = some (.int .i64 r.number) := hb.cell 15
  have f15 := hb.free 15
  have c16 : w2.cell? ⟨w.heap.size, 16, none⟩ = some (.int .i64 r.since) := hb.cell 16
  have f16 := hb.free 16
  have HB := Lib.hid hb
  have HX := Lib.hid hx
  have HZ := Lib.hid hz
  have HY := Lib.hid hy
  have HF := Lib.hid hf
  clear hf hy hz hx hb
  go_wp2_with fail
  refine wp_region_leftH (fun W => Box W w.heap.size { r.setG n m with lease := n, number := m, since := r.now } ∧ W.cell? ⟨w.heap.size + 1, 1, none⟩ = some (.int .i64 n) ∧ W.cell? ⟨w.heap.size + 1, 2, none⟩ = some (.int .i64 m)) (by kernel_rfl) ?_
  refine LeftH.take 6 (by kernel_rfl) (fun _ _ d _ _ h => by cases d <;> exact h) ⟨Blk.drew (((HB.out.set 14 _).set 15 _).set 16 _), ?_, ?_⟩ ?_
  · go_simp
  · go_simp
  simp only [List.take_succ_cons, List.take_zero]
  refine wpYield_load (ty := 59) rfl rfl (fun W hW => hW.1) rfl Try.underlying59 rfl (RS.info _) ?_; (intro K' hK'; go_simp; refine hK' _ ?_; clear hK' K')
  iterate 5 (refine wpYield_stepK (v := ?_) rfl ?_ ?_; rotate_left; (· intro W hW; obtain ⟨_, z1, z2⟩ := hW; go_simp; rfl); (intro K' hK'; go_simp; refine hK' _ ?_; clear hK' K'))
  refine LeftH.one rfl (by kernel_rfl) ?_
  refine wpList_storeB (ty := 59) rfl rfl (b := w.heap.size + 2) (T := 59) (old := zs) ?_ rfl rfl (hz1.trans (RS.len _).symm) (RS.info _) (RS.one _) ?_
  · (repeat (first | with_reducible exact HZ.out | with_reducible refine Blk.drewN ?_ | with_reducible refine Blk.drew ?_ | with_reducible refine Blk.alloc' ?_ | ((with_reducible refine Blk.other' ?_ ?_); · (simp; try omega)) | ((with_reducible refine Blk.rowO ?_ ?_); · (simp; try omega)) | exact HZ.out))
  refine wpList_nil ?_
  refine ⟨⟨by (repeat (first | with_reducible exact ((HB.out.set 14 _).set 15 _).set 16 _ | with_reducible refine Blk.drewN ?_ | with_reducible refine Blk.drew ?_ | with_reducible refine Blk.alloc' ?_ | ((with_reducible refine Blk.other' ?_ ?_); · (simp; try omega)) | ((with_reducible refine Blk.rowO ?_ ?_); · (simp; try omega)) | exact ((HB.out.set 14 _).set 15 _).set 16 _)), (show Blk _ (w.heap.size + 1) 41 [.int .i64 1, .int .i64 n, .int .i64 m] by (repeat (first | with_reducible exact HX.out | with_reducible refine Blk.drewN ?_ | with_reducible refine Blk.drew ?_ | with_reducible refine Blk.alloc' ?_ | ((with_reducible refine Blk.other' ?_ ?_); · (simp; try omega)) | ((with_reducible refine Blk.rowO ?_ ?_); · (simp; try omega)) | exact HX.out))).cell 1, (show Blk _ (w.heap.size + 1) 41 [.int .i64 1, .int .i64 n, .int .i64 m] by (repeat (first | with_reducible exact HX.out | with_reducible refine Blk.drewN ?_ | with_reducible refine Blk.drew ?_ | with_reducible refine Blk.alloc' ?_ | ((with_reducible refine Blk.other' ?_ ?_); · (simp; try omega)) | ((with_reducible refine Blk.rowO ?_ ?_); · (simp; try omega)) | exact HX.out))).cell 2⟩, ?_⟩
  refine LeftH.one rfl (by kernel_rfl) ?_
  refine wpList_storeB (P := Try.prog) (ty := 41) (cs := wordC (2, (n : Int), m)) rfl rfl (b := w.heap.size + 3) (T := 41) (old := wordC (0, 0, 0)) ?_ rfl rfl rfl (word_info _) (word_one _) ?_
  · (repeat (first | with_reducible exact HY.out | with_reducible refine Blk.drewN ?_ | with_reducible refine Blk.drew ?_ | with_reducible refine Blk.alloc' ?_ | ((with_reducible refine Blk.other' ?_ ?_); · (simp; try omega)) | ((with_reducible refine Blk.rowO ?_ ?_); · (simp; try omega)) | exact HY.out))
  refine wpList_nil ?_
  refine ⟨⟨by (repeat (first | with_reducible exact ((HB.out.set 14 _).set 15 _).set 16 _ | with_reducible refine Blk.drewN ?_ | with_reducible refine Blk.drew ?_ | with_reducible refine Blk.alloc' ?_ | ((with_reducible refine Blk.other' ?_ ?_); · (simp; try omega)) | ((with_reducible refine Blk.rowO ?_ ?_); · (simp; try omega)) | exact ((HB.out.set 14 _).set 15 _).set 16 _)), (show Blk _ (w.heap.size + 1) 41 [.int .i64 1, .int .i64 n, .int .i64 m] by (repeat (first | with_reducible exact HX.out | with_reducible refine Blk.drewN ?_ | with_reducible refine Blk.drew ?_ | with_reducible refine Blk.alloc' ?_ | ((with_reducible refine Blk.other' ?_ ?_); · (simp; try omega)) | ((with_reducible refine Blk.rowO ?_ ?_); · (simp; try omega)) | exact HX.out))).cell 1, (show Blk _ (w.heap.size + 1) 41 [.int .i64 1, .int .i64 n, .int .i64 m] by (repeat (first | with_reducible exact HX.out | with_reducible refine Blk.drewN ?_ | with_reducible refine Blk.drew ?_ | with_reducible refine Blk.alloc' ?_ | ((with_reducible refine Blk.other' ?_ ?_); · (simp; try omega)) | ((with_reducible refine Blk.rowO ?_ ?_); · (simp; try omega)) | exact HX.out))).cell 2⟩, ?_⟩
  refine LeftH.one rfl (by kernel_rfl) ?_
  iterate 4 go_step
  refine ⟨⟨by (repeat (first | with_reducible exact ((HB.out.set 14 _).set 15 _).set 16 _ | with_reducible refine Blk.drewN ?_ | with_reducible refine Blk.drew ?_ | with_reducible refine Blk.alloc' ?_ | ((with_reducible refine Blk.other' ?_ ?_); · (simp; try omega)) | ((with_reducible refine Blk.rowO ?_ ?_); · (simp; try omega)) | exact ((HB.out.set 14 _).set 15 _).set 16 _)), (show Blk _ (w.heap.size + 1) 41 [.int .i64 1, .int .i64 n, .int .i64 m] by (repeat (first | with_reducible exact HX.out | with_reducible refine Blk.drewN ?_ | with_reducible refine Blk.drew ?_ | with_reducible refine Blk.alloc' ?_ | ((with_reducible refine Blk.other' ?_ ?_); · (simp; try omega)) | ((with_reducible refine Blk.rowO ?_ ?_); · (simp; try omega)) | exact HX.out))).cell 1, (show Blk _ (w.heap.size + 1) 41 [.int .i64 1, .int .i64 n, .int .i64 m] by (repeat (first | with_reducible exact HX.out | with_reducible refine Blk.drewN ?_ | with_reducible refine Blk.drew ?_ | with_reducible refine Blk.alloc' ?_ | ((with_reducible refine Blk.other' ?_ ?_); · (simp; try omega)) | ((with_reducible refine Blk.rowO ?_ ?_); · (simp; try omega)) | exact HX.out))).cell 2⟩, ?_⟩
  refine LeftH.done rfl (by kernel_rfl) ?_
  go_wp2

  try simp only [Exit.inBlock, Exit.then]
  refine bodyPost_ret (v := hearV { r.setG n m with lease := n, number := m, since := r.now } (2, (n : Int), m) 0) ?_ rfl ⟨rfl, ?_⟩
  · refine results_cct Try.results32 (cs := RS.cells { r.setG n m with lease := n, number := m, since := r.now }) (cs2 := wordC (2, (n : Int), m)) (Blk.rowO (by simp) (Blk.row (T := 59) (old := zs) (by (repeat (first | with_reducible exact HZ.out | with_reducible refine Blk.drewN ?_ | with_reducible refine Blk.drew ?_ | with_reducible refine Blk.alloc' ?_ | ((with_reducible refine Blk.other' ?_ ?_); · (simp; try omega)) | ((with_reducible refine Blk.rowO ?_ ?_); · (simp; try omega)) | exact HZ.out))) _)) rfl Try.underlying59 rfl (RS.info _) (Blk.row (T := 41) (old := wordC (0, 0, 0)) (by (repeat (first | with_reducible exact HY.out | with_reducible refine Blk.drewN ?_ | with_reducible refine Blk.drew ?_ | with_reducible refine Blk.alloc' ?_ | ((with_reducible refine Blk.other' ?_ ?_); · (simp; try omega)) | ((with_reducible refine Blk.rowO ?_ ?_); · (simp; try omega)) | exact HY.out))) _) rfl Try.underlying41 rfl (word_info _)
  · refine HF.out.trans ?_
    repeat (first | with_reducible exact Frm.refl _ _ _ | with_reducible refine Frm.drewN ?_ | with_reducible refine Frm.drew ?_ | ((with_reducible refine Frm.setCell' ?_ ?_); · first | (left; simp; done) | (right; simp; done) | (right; simp; omega)) | ((with_reducible refine Frm.setRow' ?_ ?_); · first | (left; simp; done) | (right; simp; done) | (right; simp; omega)) | ((with_reducible refine Frm.alloc' ?_ ?_); · first | exact Nat.le_refl _ | (simp; done) | (simp; omega)))

set_option maxRecDepth 100000 in
set_option maxHeartbeats 4000000 in
theorem refHear1_same (r : RS) (n : Nat) (m : Int) (w : World) (hv : wordB 1 n m = true) (hn : n ≤ r.nodes) (h8 : n ≤ 8) (tm : r.g[n]?.getD 0 < m) (t1 : r.wanted = n) (t2 : ¬ r.lease = 0) (t3 : r.lease = n) :
    Calls Try.prog 32 #[r.val, .agg (wordC (1, (n : Int), m)).toArray] w fun e w' => e = .returned (hearV { r.setG n m with lease := n, number := m, since := r.now } (2, (n : Int), m) 0) ∧ Frm w.heap.size [] w w' := by
  have HV := Lib.hid hv
  clear hv
  have hn0 : (0 : Int) ≤ (n : Int) := by omega
  have h9 : (n : Int) < 9 := by omega
  have tn : ¬ m ≤ r.g[n]?.getD 0 := by omega
  have td : decide (m ≤ r.g[n]?.getD 0) = false := by simpa using tm
  have e2 : (r.lease == 0) = false := by simpa using t2
  go_enter Try.func32, Try.ntmps32
  iterate 19 go_step
  refine named ?_; intro W hW
  have hb : Box W w.heap.size r := by rw [hW]; repeat (first | exact Blk.new w 59 r.cells | refine Blk.alloc' ?_)
  have hx : Blk W (w.heap.size + 1) 41 [.int .i64 1, .int .i64 n, .int .i64 m] := by rw [hW]; repeat (first | exact Blk.new' _ 41 [.int .i64 1, .int .i64 n, .int .i64 m] (by simp) | refine Blk.alloc' ?_)
  obtain ⟨zs, hz1, hz⟩ : ∃ zs, zs.length = 17 ∧ Blk W (w.heap.size + 2) 59 zs := ⟨zero59, rfl, by rw [hW]; repeat (first | exact Blk.new' _ 59 zero59 (by simp) | refine Blk.alloc' ?_)⟩
  have hy : Blk W (w.heap.size + 3) 41 [.int .i64 0, .int .i64 0, .int .i64 0] := by rw [hW]; exact Blk.new' _ 41 [.int .i64 0, .int .i64 0, .int .i64 0] (by simp)
  have hf : Frm w.heap.size [] w W := by rw [hW]; repeat (first | with_reducible exact Frm.refl _ _ _ | with_reducible refine Frm.drewN ?_ | with_reducible refine Frm.drew ?_ | ((with_reducible refine Frm.setCell' ?_ ?_); · first | (left; simp; done) | (right; simp; done) | (right; simp; omega)) | ((with_reducible refine Frm.alloc' ?_ ?_); · first | exact Nat.le_refl _ | (simp; done) | (simp; omega)))
  have hs : W.heap.size = w.heap.size + 4 := by rw [hW]; simp
  clear hW
  have x0 := hx.cell 0
  have x1 := hx.cell 1
  have x2 := hx.cell 2
  simp only [List.getElem?_cons_succ, List.getElem?_cons_zero] at x0 x1 x2
  have HB := Lib.hid hb
  have HX := Lib.hid hx
  have HZ := Lib.hid hz
  have HY := Lib.hid hy
  have HF := Lib.hid hf
  have HS := Lib.hid hs
  clear hb hx hz hy hf hs
  go_wp2_with fail
  refine (refWord_frm _ _ _ _).mono ?_; rintro e w1 ⟨rfl, hf1⟩; rw [HV.out]
  clear x0 x1 x2
  have q0 := HS.out
  have hb : Box w1 w.heap.size r := hf1.blk HB.out (by omega) (by simp)
  have hx : Blk w1 (w.heap.size + 1) 41 [.int .i64 1, .int .i64 n, .int .i64 m] := hf1.blk HX.out (by omega) (by simp)
  have hz : Blk w1 (w.heap.size + 2) 59 zs := hf1.blk HZ.out (by omega) (by simp)
  have hy : Blk w1 (w.heap.size + 3) 41 [.int .i64 0, .int .i64 0, .int .i64 0] := hf1.blk HY.out (by omega) (by simp)
  have hf : Frm w.heap.size [] w w1 := HF.out.call hf1 (by omega) (by simp)
  clear hf1 q0 HB HX HZ HY HF HS
  have x0 := hx.cell 0
  have x1 := hx.cell 1
  have x2 := hx.cell 2
  simp only [List.getElem?_cons_succ, List.getElem?_cons_zero] at x0 x1 x2
  have c0 : w1.cell? ⟨w.heap.size, 0, none⟩ = some (.int .i64 r.nodes) := hb.cell 0
  have f0 := hb.free 0
  have cg : w1.cell? ⟨w.heap.size, 5 + n, none⟩ = some (.int .i64 (r.g[n]?.getD 0)) := (hb.cell _).trans (r.cells_g n h8)
  have fg := hb.free (5 + n)
  have HB := Lib.hid hb
  have HX := Lib.hid hx
  have HZ := Lib.hid hz
  have HY := Lib.hid hy
  have HF := Lib.hid hf
  clear hf hy hz hx hb
  go_wp2_with fail
  go_quiet (fail)
  go_wp2_with fail
  refine wp_region_left (by kernel_rfl) ?_
  refine Left.headD 12 (by kernel_rfl) ?_
  simp only [List.take_succ_cons, List.take_zero, List.drop_succ_cons, List.drop_zero, Nat.reduceSub]
  repeat (quiet_step (fail))
  refine wpQuiet_nil ?_
  rintro _ ⟨nq, rfl⟩
  refine Left.tail (by kernel_rfl) ?_
  simp only [List.drop_succ_cons, List.drop_zero]
  iterate 4 go_step
  refine named ?_; intro w2 hw2
  have hb : Box w2 w.heap.size (r.setG n m) := by
    rw [hw2]
    show Blk _ _ _ _
    rw [← RS.setG_cells r n _ h8]
    exact HB.out.drewN.set (5 + n) _
  have hx : Blk w2 (w.heap.size + 1) 41 [.int .i64 1, .int .i64 n, .int .i64 m] := by rw [hw2]; (repeat (first | with_reducible exact HX.out | with_reducible refine Blk.drewN ?_ | with_reducible refine Blk.drew ?_ | with_reducible refine Blk.alloc' ?_ | ((with_reducible refine Blk.other' ?_ ?_); · (simp; try omega)) | ((with_reducible refine Blk.rowO ?_ ?_); · (simp; try omega)) | exact HX.out))
  have hz : Blk w2 (w.heap.size + 2) 59 zs := by rw [hw2]; (repeat (first | with_reducible exact HZ.out | with_reducible refine Blk.drewN ?_ | with_reducible refine Blk.drew ?_ | with_reducible refine Blk.alloc' ?_ | ((with_reducible refine Blk.other' ?_ ?_); · (simp; try omega)) | ((with_reducible refine Blk.rowO ?_ ?_); · (simp; try omega)) | exact HZ.out))
  have hy : Blk w2 (w.heap.size + 3) 41 (wordC (0, 0, 0)) := by rw [hw2]; (repeat (first | with_reducible exact HY.out | with_reducible refine Blk.drewN ?_ | with_reducible refine Blk.drew ?_ | with_reducible refine Blk.alloc' ?_ | ((with_reducible refine Blk.other' ?_ ?_); · (simp; try omega)) | ((with_reducible refine Blk.rowO ?_ ?_); · (simp; try omega)) | exact HY.out))
  have hf : Frm w.heap.size [] w w2 := by
    rw [hw2]
    refine HF.out.trans ?_
    repeat (first | with_reducible exact Frm.refl _ _ _ | with_reducible refine Frm.drewN ?_ | with_reducible refine Frm.drew ?_ | ((with_reducible refine Frm.setCell' ?_ ?_); · first | (left; simp; done) | (right; simp; done) | (right; simp; omega)) | ((with_reducible refine Frm.setRow' ?_ ?_); · first | (left; simp; done) | (right; simp; done) | (right; simp; omega)) | ((with_reducible refine Frm.alloc' ?_ ?_); · first | exact Nat.le_refl _ | (simp; done) | (simp; omega)))
  clear hw2 cg fg c0 f0 x0 x1 x2 HB HX HZ HY HF
  have x0 := hx.cell 0
  have x1 := hx.cell 1
  have x2 := hx.cell 2
  simp only [List.getElem?_cons_succ, List.getElem?_cons_zero] at x0 x1 x2
  have c3 : w2.cell? ⟨w.heap.size, 3, none⟩ = some (.int .i64 r.now) := hb.cell 3
  have f3 := hb.free 3
  have c4 : w2.cell? ⟨w.heap.size, 4, none⟩ = some (.int .i64 r.wanted) := hb.cell 4
  have f4 := hb.free 4
  have c14 : w2.cell? ⟨w.heap.size, 14, none⟩ = some (.int .i64 r.lease) := hb.cell 14
  have f14 := hb.free 14
  have c15 : w2.cell? ⟨w.heap.size, 15, none⟩ = some (.int .i64 r.number) := hb.cell 15
  have f15 := hb.free 15
  have c16 : w2.cell? ⟨w.heap.size, 16, none⟩ = some (.int .i64 r.since) := hb.cell 16
  have f16 := hb.free 16
  have HB := Lib.hid hb
  have HX := Lib.hid hx
  have HZ := Lib.hid hz
  have HY := Lib.hid hy
  have HF := Lib.hid hf
  clear hf hy hz hx hb
  go_wp2_with fail
  refine wp_region_leftH (fun W => Box W w.heap.size { r.setG n m with lease := n, number := m, since := r.now } ∧ W.cell? ⟨w.heap.size + 1, 1, none⟩ = some (.int .i64 n) ∧ W.cell? ⟨w.heap.size + 1, 2, none⟩ = some (.int .i64 m)) (by kernel_rfl) ?_
  refine LeftH.take 6 (by kernel_rfl) (fun _ _ d _ _ h => by cases d <;> exact h) ⟨Blk.drew (((HB.out.set 14 _).set 15 _).set 16 _), ?_, ?_⟩ ?_
  · go_simp
  · go_simp
  simp only [List.take_succ_cons, List.take_zero]
  refine wpYield_load (ty := 59) rfl rfl (fun W hW => hW.1) rfl Try.underlying59 rfl (RS.info _) ?_; (intro K' hK'; go_simp; refine hK' _ ?_; clear hK' K')
  iterate 5 (refine wpYield_stepK (v := ?_) rfl ?_ ?_; rotate_left; (· intro W hW; obtain ⟨_, z1, z2⟩ := hW; go_simp; rfl); (intro K' hK'; go_simp; refine hK' _ ?_; clear hK' K'))
  refine LeftH.one rfl (by kernel_rfl) ?_
  refine wpList_storeB (ty := 59) rfl rfl (b := w.heap.size + 2) (T := 59) (old := zs) ?_ rfl rfl (hz1.trans (RS.len _).symm) (RS.info _) (RS.one _) ?_
  · (repeat (first | with_reducible exact HZ.out | with_reducible refine Blk.drewN ?_ | with_reducible refine Blk.drew ?_ | with_reducible refine Blk.alloc' ?_ | ((with_reducible refine Blk.other' ?_ ?_); · (simp; try omega)) | ((with_reducible refine Blk.rowO ?_ ?_); · (simp; try omega)) | exact HZ.out))
  refine wpList_nil ?_
  refine ⟨⟨by (repeat (first | with_reducible exact ((HB.out.set 14 _).set 15 _).set 16 _ | with_reducible refine Blk.drewN ?_ | with_reducible refine Blk.drew ?_ | with_reducible refine Blk.alloc' ?_ | ((with_reducible refine Blk.other' ?_ ?_); · (simp; try omega)) | ((with_reducible refine Blk.rowO ?_ ?_); · (simp; try omega)) | exact ((HB.out.set 14 _).set 15 _).set 16 _)), (show Blk _ (w.heap.size + 1) 41 [.int .i64 1, .int .i64 n, .int .i64 m] by (repeat (first | with_reducible exact HX.out | with_reducible refine Blk.drewN ?_ | with_reducible refine Blk.drew ?_ | with_reducible refine Blk.alloc' ?_ | ((with_reducible refine Blk.other' ?_ ?_); · (simp; try omega)) | ((with_reducible refine Blk.rowO ?_ ?_); · (simp; try omega)) | exact HX.out))).cell 1, (show Blk _ (w.heap.size + 1) 41 [.int .i64 1, .int .i64 n, .int .i64 m] by (repeat (first | with_reducible exact HX.out | with_reducible refine Blk.drewN ?_ | with_reducible refine Blk.drew ?_ | with_reducible refine Blk.alloc' ?_ | ((with_reducible refine Blk.other' ?_ ?_); · (simp; try omega)) | ((with_reducible refine Blk.rowO ?_ ?_); · (simp; try omega)) | exact HX.out))).cell 2⟩, ?_⟩
  refine LeftH.one rfl (by kernel_rfl) ?_
  refine wpList_storeB (P := Try.prog) (ty := 41) (cs := wordC (2, (n : Int), m)) rfl rfl (b := w.heap.size + 3) (T := 41) (old := wordC (0, 0, 0)) ?_ rfl rfl rfl (word_info _) (word_one _) ?_
  · (repeat (first | with_reducible exact HY.out | with_reducible refine Blk.drewN ?_ | with_reducible refine Blk.drew ?_ | with_reducible refine Blk.alloc' ?_ | ((with_reducible refine Blk.other' ?_ ?_); · (simp; try omega)) | ((with_reducible refine Blk.rowO ?_ ?_); · (simp; try omega)) | exact HY.out))
  refine wpList_nil ?_
  refine ⟨⟨by (repeat (first | with_reducible exact ((HB.out.set 14 _).set 15 _).set 16 _ | with_reducible refine Blk.drewN ?_ | with_reducible refine Blk.drew ?_ | with_reducible refine Blk.alloc' ?_ | ((with_reducible refine Blk.other' ?_ ?_); · (simp; try omega)) | ((with_reducible refine Blk.rowO ?_ ?_); · (simp; try omega)) | exact ((HB.out.set 14 _).set 15 _).set 16 _)), (show Blk _ (w.heap.size + 1) 41 [.int .i64 1, .int .i64 n, .int .i64 m] by (repeat (first | with_reducible exact HX.out | with_reducible refine Blk.drewN ?_ | with_reducible refine Blk.drew ?_ | with_reducible refine Blk.alloc' ?_ | ((with_reducible refine Blk.other' ?_ ?_); · (simp; try omega)) | ((with_reducible refine Blk.rowO ?_ ?_); · (simp; try omega)) | exact HX.out))).cell 1, (show Blk _ (w.heap.size + 1) 41 [.int .i64 1, .int .i64 n, .int .i64 m] by (repeat (first | with_reducible exact HX.out | with_reducible refine Blk.drewN ?_ | with_reducible refine Blk.drew ?_ | with_reducible refine Blk.alloc' ?_ | ((with_reducible refine Blk.other' ?_ ?_); · (simp; try omega)) | ((with_reducible refine Blk.rowO ?_ ?_); · (simp; try omega)) | exact HX.out))).cell 2⟩, ?_⟩
  refine LeftH.one rfl (by kernel_rfl) ?_
  iterate 4 go_step
  refine ⟨⟨by (repeat (first | with_reducible exact ((HB.out.set 14 _).set 15 _).set 16 _ | with_reducible refine Blk.drewN ?_ | with_reducible refine Blk.drew ?_ | with_reducible refine Blk.alloc' ?_ | ((with_reducible refine Blk.other' ?_ ?_); · (simp; try omega)) | ((with_reducible refine Blk.rowO ?_ ?_); · (simp; try omega)) | exact ((HB.out.set 14 _).set 15 _).set 16 _)), (show Blk _ (w.heap.size + 1) 41 [.int .i64 1, .int .i64 n, .int .i64 m] by (repeat (first | with_reducible exact HX.out | with_reducible refine Blk.drewN ?_ | with_reducible refine Blk.drew ?_ | with_reducible refine Blk.alloc' ?_ | ((with_reducible refine Blk.other' ?_ ?_); · (simp; try omega)) | ((with_reducible refine Blk.rowO ?_ ?_); · (simp; try omega)) | exact HX.out))).cell 1, (show Blk _ (w.heap.size + 1) 41 [.int .i64 1, .int .i64 n, .int .i64 m] by (repeat (first | with_reducible exact HX.out | with_reducible refine Blk.drewN ?_ | with_reducible refine Blk.drew ?_ | with_reducible refine Blk.alloc' ?_ | ((with_reducible refine Blk.other' ?_ ?_); · (simp; try omega)) | ((with_reducible refine Blk.rowO ?_ ?_); · (simp; try omega)) | exact HX.out))).cell 2⟩, ?_⟩
  refine LeftH.done rfl (by kernel_rfl) ?_
  go_wp2

  try simp only [Exit.inBlock, Exit.then]
  refine bodyPost_ret (v := hearV { r.setG n m with lease := n, number := m, since := r.now } (2, (n : Int), m) 0) ?_ rfl ⟨rfl, ?_⟩
  · refine results_cct Try.results32 (cs := RS.cells { r.setG n m with lease := n, number := m, since := r.now }) (cs2 := wordC (2, (n : Int), m)) (Blk.rowO (by simp) (Blk.row (T := 59) (old := zs) (by (repeat (first | with_reducible exact HZ.out | with_reducible refine Blk.drewN ?_ | with_reducible refine Blk.drew ?_ | with_reducible refine Blk.alloc' ?_ | ((with_reducible refine Blk.other' ?_ ?_); · (simp; try omega)) | ((with_reducible refine Blk.rowO ?_ ?_); · (simp; try omega)) | exact HZ.out))) _)) rfl Try.underlying59 rfl (RS.info _) (Blk.row (T := 41) (old := wordC (0, 0, 0)) (by (repeat (first | with_reducible exact HY.out | with_reducible refine Blk.drewN ?_ | with_reducible refine Blk.drew ?_ | with_reducible refine Blk.alloc' ?_ | ((with_reducible refine Blk.other' ?_ ?_); · (simp; try omega)) | ((with_reducible refine Blk.rowO ?_ ?_); · (simp; try omega)) | exact HY.out))) _) rfl Try.underlying41 rfl (word_info _)
  · refine HF.out.trans ?_
    repeat (first | with_reducible exact Frm.refl _ _ _ | with_reducible refine Frm.drewN ?_ | with_reducible refine Frm.drew ?_ | ((with_reducible refine Frm.setCell' ?_ ?_); · first | (left; simp; done) | (right; simp; done) | (right; simp; omega)) | ((with_reducible refine Frm.setRow' ?_ ?_); · first | (left; simp; done) | (right; simp; done) | (right; simp; omega)) | ((with_reducible refine Frm.alloc' ?_ ?_); · first | exact Nat.le_refl _ | (simp; done) | (simp; omega)))
end Go.Proofs.Ythmladcepkdheaa
