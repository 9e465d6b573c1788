/-
  The centre: Hear, as one function on what a centre holds.
-/
import Derived.Test.YthmladcepkdheaaCent3
import Derived.MapKept
namespace Go.Proofs.Ythmladcepkdheaa
open Go.RowKit

/-- What a centre holds. -/
structure CS where
  now : Int
  node : Int
  number : Int
  since : Int
  wait : Int
  wanted : Int
  g : List Int

abbrev CentS (w : World) (b bG bM : Nat) (c : CS) : Prop := CentAt w b bG bM c.now c.node c.number c.since c.wait c.wanted c.g

def wordV (x : Int × Int × Int) : Value := .agg #[.int .i64 x.1, .int .i64 x.2.1, .int .i64 x.2.2]

def CS.ask (c : CS) (n : Nat) (m : Int) : CS × (Int × Int × Int) :=
  if m ≤ c.g[n]?.getD 0 then (c, (0, 0, 0))
  else if (n : Int) = c.wanted ∧ (c.node = 0 ∨ c.node = n) then ({ c with node := n, number := m, since := c.now, g := c.g.set n m }, (2, n, m))
  else ({ c with g := c.g.set n m }, (0, 0, 0))

def CS.back (c : CS) (n : Nat) (m : Int) : CS :=
  if c.node = n ∧ c.number ≤ m then { c with node := 0, number := 0, since := 0, g := c.g.set n (max (c.g[n]?.getD 0) m) }
  else { c with g := c.g.set n (max (c.g[n]?.getD 0) m) }

def CS.hear (c : CS) (k : Int) (n : Nat) (m : Int) : CS × (Int × Int × Int) :=
  if k = 1 then c.ask n m else if k = 3 then (c.back n m, (0, 0, 0)) else (c, (0, 0, 0))

theorem run_getObj_map {w : World} {r : Nat} {es : Array MapEntry} {c : Nat} (h : w.heap[r]? = some (.map es c)) : (Sem.getObj r Sem.pure).run Try.prog w = .ok (.map es c) w := by
  simp [Sem.run, h]
theorem look1 (b bM : Nat) (w : World) (h : w.heap[bM]? = some (hearMap b)) :
    (Instr.lookup 88 (.map (some bM)) (.int .i64 1) true).run Try.prog w = .ok (.tuple #[.func (.func 45) #[.pointer (some ⟨b, 0, none⟩)] #[], .bool true]) w := by
  have h10 := MapKept.run_checkKey (P := Try.prog) (w := w) Try.underlying3 (k := .int .i64 1) (by simp [MapKept.IsKey]) false 9999
  have h2 := MapKept.run_findKey (P := Try.prog) (w := w) Try.underlying3 (k := .int .i64 1) (l := [⟨.int .i64 1, .func (.func 45) #[.pointer (some ⟨b, 0, none⟩)] #[], 0⟩, ⟨.int .i64 3, .func (.func 46) #[.pointer (some ⟨b, 0, none⟩)] #[], 1⟩]) rfl
  simp [Instr.lookup, run_underlying Try.underlying88, getObj, h10, h2, run_getObj_map h]
theorem look3 (b bM : Nat) (w : World) (h : w.heap[bM]? = some (hearMap b)) :
    (Instr.lookup 88 (.map (some bM)) (.int .i64 3) true).run Try.prog w = .ok (.tuple #[.func (.func 46) #[.pointer (some ⟨b, 0, none⟩)] #[], .bool true]) w := by
  have h10 := MapKept.run_checkKey (P := Try.prog) (w := w) Try.underlying3 (k := .int .i64 3) (by simp [MapKept.IsKey]) false 9999
  have h2 := MapKept.run_findKey (P := Try.prog) (w := w) Try.underlying3 (k := .int .i64 3) (l := [⟨.int .i64 1, .func (.func 45) #[.pointer (some ⟨b, 0, none⟩)] #[], 0⟩, ⟨.int .i64 3, .func (.func 46) #[.pointer (some ⟨b, 0, none⟩)] #[], 1⟩]) rfl
  simp [Instr.lookup, run_underlying Try.underlying88, getObj, h10, h2, run_getObj_map h]
theorem look2 (b bM : Nat) (w : World) (h : w.heap[bM]? = some (hearMap b)) :
    (Instr.lookup 88 (.map (some bM)) (.int .i64 2) true).run Try.prog w = .ok (.tuple #[.nilFunc, .bool false]) w := by
  have h10 := MapKept.run_checkKey (P := Try.prog) (w := w) Try.underlying3 (k := .int .i64 2) (by simp [MapKept.IsKey]) false 9999
  have h2 := MapKept.run_findKey (P := Try.prog) (w := w) Try.underlying3 (k := .int .i64 2) (l := [⟨.int .i64 1, .func (.func 45) #[.pointer (some ⟨b, 0, none⟩)] #[], 0⟩, ⟨.int .i64 3, .func (.func 46) #[.pointer (some ⟨b, 0, none⟩)] #[], 1⟩]) rfl
  have h3 : (zeroValue 99).run Try.prog w = .ok .nilFunc w := by kernel_rfl
  simp [Instr.lookup, run_underlying Try.underlying88, getObj, h10, h2, run_getObj_map h, h3]

theorem ask_of (b bG bM : Nat) (w : World) (c : CS) (n : Nat) (m : Int) (e : Ending) (w' : World) (h : Asked w b bG bM c.now c.node c.number c.since c.wait c.wanted c.g n m e w') :
    e = .returned (wordV (c.ask n m).2) ∧ Frm w.heap.size [b, bG] w w' ∧ CentS w' b bG bM (c.ask n m).1 := by
  obtain ⟨hf, h⟩ := h
  unfold CS.ask
  split at h
  · rename_i h1; rw [if_pos h1]; exact ⟨h.1, hf, h.2⟩
  · rename_i h1
    rw [if_neg h1]
    split at h
    · rename_i h2; rw [if_pos h2]; exact ⟨h.1, hf, h.2⟩
    · rename_i h2; rw [if_neg h2]; exact ⟨h.1, hf, h.2⟩

theorem back_of (b bG bM : Nat) (w : World) (c : CS) (n : Nat) (m : Int) (e : Ending) (w' : World) (h : Backed w b bG bM c.now c.node c.number c.since c.wait c.wanted c.g n m e w') :
    e = .returned (wordV (0, 0, 0)) ∧ Frm w.heap.size [b, bG] w w' ∧ CentS w' b bG bM (c.back n m) := by
  obtain ⟨hf, he, h⟩ := h
  unfold CS.back
  split at h
  · rename_i h1; rw [if_pos h1]; exact ⟨he, hf, h⟩
  · rename_i h1; rw [if_neg h1]; exact ⟨he, hf, h⟩

theorem valid_frm (k n m : Int) (w : World) :
    Calls Try.prog 50 #[.agg #[.int .i64 k, .int .i64 n, .int .i64 m]] w fun e w' => e = .returned (.bool (wordB k n m)) ∧ Frm w.heap.size [] w w' :=
  (valid_any k n m w).mono fun e w' ⟨h1, h2⟩ => ⟨h1, h2 ▸ (Frm.refl _ _ w).alloc (Nat.le_refl _) _⟩

section
variable {c : CS} {bG bM : Nat}

set_option maxRecDepth 100000 in
set_option maxHeartbeats 2000000 in
theorem centHear_bad (b : Nat) (w : World) (k n m : Int) (h : CentS w b bG bM c) (hv : wordB k n m = false) :
    Calls Try.prog 31 #[.pointer (some ⟨b, 0, none⟩), .agg #[.int .i64 k, .int .i64 n, .int .i64 m]] w fun e w' => e = .returned (.tuple #[wordV (0, 0, 0), .int .i64 2]) ∧ Frm w.heap.size [] w w' := by
  have H := Lib.hid h
  have HV := Lib.hid hv
  clear hv h
  go_enter Try.func31, Try.ntmps31
  go_wp2_with fail
  refine (centIs _ _ ((H.out.blk.alloc _).alloc _)).mono ?_; rintro e w' ⟨rfl, rfl⟩
  go_wp2_with fail
  refine (valid_any _ _ _ _).mono ?_; rintro e w' ⟨rfl, rfl⟩
  rw [HV.out]
  go_wp2
  refine bodyPost_ret (v := .tuple #[wordV (0, 0, 0), .int .i64 2]) (by simp [results, Try.results31, go_sem, wordV]) rfl ⟨rfl, ?_⟩
  repeat (first | with_reducible exact Frm.refl _ _ _ | with_reducible refine Frm.drewN ?_ | with_reducible refine Frm.drew ?_ | ((with_reducible refine Frm.setCell' ?_ ?_); · first | (left; simp; done) | (right; simp; done) | (right; simp; omega)) | ((with_reducible refine Frm.alloc' ?_ ?_); · first | exact Nat.le_refl _ | (simp; done) | (simp; omega)))

set_option maxRecDepth 100000 in
set_option maxHeartbeats 2000000 in
theorem centHear_none (b : Nat) (w : World) (k n m : Int) (h : CentS w b bG bM c) (hg : c.g.length ≤ 100000) (hv : wordB k n m = true) (hn : (c.g.length : Int) ≤ n) :
    Calls Try.prog 31 #[.pointer (some ⟨b, 0, none⟩), .agg #[.int .i64 k, .int .i64 n, .int .i64 m]] w fun e w' => e = .returned (.tuple #[wordV (0, 0, 0), .int .i64 7]) ∧ Frm w.heap.size [] w w' := by
  obtain ⟨⟨c0, c1, c2, c3, c4, c5, c6, c7, c8⟩, f0, f1, f2, f3, f6⟩ := cent_cells h.blk
  have hb := h.blk.lt
  have x1 : w.heap.size ≠ b := by omega
  have x3 : w.heap.size + 1 ≠ b := by omega
  have x4 : b < w.heap.size + 1 + 1 := by omega
  have H := Lib.hid h
  have HV := Lib.hid hv
  clear hv h
  clear c0 c1 c2 c3 c4 c5 c6 c8
  go_enter Try.func31, Try.ntmps31
  go_wp2_with fail
  refine (centIs _ _ ((H.out.blk.alloc _).alloc _)).mono ?_; rintro e w' ⟨rfl, rfl⟩
  go_wp2_with fail
  refine (valid_any _ _ _ _).mono ?_; rintro e w' ⟨rfl, rfl⟩
  rw [HV.out]
  go_wp2_with fail
  go_quiet (fail)
  go_wp2
  refine bodyPost_ret (v := .tuple #[wordV (0, 0, 0), .int .i64 7]) (by simp [results, Try.results31, go_sem, wordV]) rfl ⟨rfl, ?_⟩
  repeat (first | with_reducible exact Frm.refl _ _ _ | with_reducible refine Frm.drewN ?_ | with_reducible refine Frm.drew ?_ | ((with_reducible refine Frm.setCell' ?_ ?_); · first | (left; simp; done) | (right; simp; done) | (right; simp; omega)) | ((with_reducible refine Frm.alloc' ?_ ?_); · first | exact Nat.le_refl _ | (simp; done) | (simp; omega)))

set_option maxRecDepth 100000 in
set_option maxHeartbeats 4000000 in
theorem centHear_ok (b : Nat) (w : World) (k : Int) (n : Nat) (m : Int) (h : CentS w b bG bM c) (hg : c.g.length ≤ 100000) (hv : wordB k n m = true) (hn : n < c.g.length) :
    Calls Try.prog 31 #[.pointer (some ⟨b, 0, none⟩), .agg #[.int .i64 k, .int .i64 n, .int .i64 m]] w fun e w' => e = .returned (.tuple #[wordV (c.hear k n m).2, .int .i64 0]) ∧ Frm w.heap.size [b, bG] w w' ∧ CentS w' b bG bM (c.hear k n m).1 := by
  have hb := h.blk.lt
  have hbG := h.row.lt
  have hk : k = 1 ∨ k = 2 ∨ k = 3 := by
    have := (inB_iff (n := k) (l := 1) (m := 3)).1 (by unfold wordB at hv; simp only [Bool.and_eq_true] at hv; exact hv.1.1)
    omega
  have hge : ¬ (c.g.length : Int) ≤ (n : Int) := by omega
  have hlt : (n : Int) < (c.g.length : Int) := by omega
  have HX := Lib.hid (show ∀ w1, Frm (w.heap.size + 1 + 1) [] ((w.alloc (.cells #[.int .i64 k, .int .i64 n, .int .i64 m] 41)).alloc (.cells #[.int .i64 0, .int .i64 0, .int .i64 0] 41)) w1 →
      CentS w1 b bG bM c ∧ w1.cell? ⟨w.heap.size, 0, none⟩ = some (.int .i64 k) ∧ w1.cell? ⟨w.heap.size, 1, none⟩ = some (.int .i64 n) ∧ w1.cell? ⟨w.heap.size, 2, none⟩ = some (.int .i64 m) ∧
      w1.cell? ⟨w.heap.size + 1, 0, none⟩ = some (.int .i64 0) ∧ w1.cell? ⟨w.heap.size + 1, 1, none⟩ = some (.int .i64 0) ∧ w1.cell? ⟨w.heap.size + 1, 2, none⟩ = some (.int .i64 0) ∧
      w1.frozen? ⟨w.heap.size + 1, 0, none⟩ = false ∧ w1.frozen? ⟨w.heap.size + 1, 1, none⟩ = false ∧ w1.frozen? ⟨w.heap.size + 1, 2, none⟩ = false ∧
      w1.cell? ⟨b, 7, none⟩ = some (.slice (some ⟨bG, 0, none⟩) c.g.length c.g.length) ∧ Frm w.heap.size [] w w1 ∧ Blk w1 (w.heap.size + 1) 41 [.int .i64 0, .int .i64 0, .int .i64 0] from fun w1 hf => by
    have f0 : Frm w.heap.size [] w ((w.alloc (.cells #[.int .i64 k, .int .i64 n, .int .i64 m] 41)).alloc (.cells #[.int .i64 0, .int .i64 0, .int .i64 0] 41)) := by
      repeat (first | with_reducible exact Frm.refl _ _ _ | with_reducible refine Frm.drewN ?_ | with_reducible refine Frm.drew ?_ | ((with_reducible refine Frm.setCell' ?_ ?_); · first | (left; simp; done) | (right; simp; done) | (right; simp; omega)) | ((with_reducible refine Frm.alloc' ?_ ?_); · first | exact Nat.le_refl _ | (simp; done) | (simp; omega)))
    have f1 := f0.call hf (by omega) (fun _ _ h => h)
    have k0 := hf.blk ((Blk.new w 41 [.int .i64 k, .int .i64 n, .int .i64 m]).alloc (.cells #[.int .i64 0, .int .i64 0, .int .i64 0] 41)) (by omega) (by simp)
    have k1 := hf.blk (b := w.heap.size + 1) (Blk.new' (w.alloc (.cells #[.int .i64 k, .int .i64 n, .int .i64 m] 41)) 41 [.int .i64 0, .int .i64 0, .int .i64 0] (by simp)) (by omega) (by simp)
    have hc := h.frm f1 (fun x hx => ⟨h.lt x hx, by simp⟩)
    exact ⟨hc, k0.cell 0, k0.cell 1, k0.cell 2, k1.cell 0, k1.cell 1, k1.cell 2, k1.free 0, k1.free 1, k1.free 2, hc.blk.cell 7, f1, k1⟩)
  have H := Lib.hid h
  have HV := Lib.hid hv
  clear hv h
  rcases hk with rfl | rfl | rfl
  · skip
    go_enter Try.func31, Try.ntmps31
    go_wp2_with fail
    refine (centIs _ _ ((H.out.blk.alloc _).alloc _)).mono ?_; rintro e w' ⟨rfl, rfl⟩
    go_wp2_with fail
    refine (valid_frm _ _ _ _).mono ?_; rintro e w1 ⟨rfl, hf1⟩
    rw [HV.out]
    obtain ⟨C1, d0, d1, d2, e0, e1, e2, y0, y1, y2, c7, HF, hbx⟩ := HX.out w1 (by simpa using hf1)
    have hl := fun d => look1 b bM (w1.drewN d) (C1.map)
    have c8 := C1.blk.cell 8
    simp only [centCells, List.getElem?_cons_succ, List.getElem?_cons_zero] at c8
    have HC := Lib.hid C1
    have HF1 := Lib.hid hf1
    have HFF := Lib.hid HF
    have HBX := Lib.hid hbx
    clear hbx HF hf1 C1
    go_wp2_with fail
    go_quiet (fail)
    go_wp2_with fail
    go_quiet (fail)
    go_wp2_with fail
    refine (ask_any b _ 1 n m (HC.out.frm (B := w1.heap.size) (S := []) (by repeat (first | with_reducible exact Frm.refl _ _ _ | with_reducible refine Frm.drewN ?_ | with_reducible refine Frm.drew ?_ | ((with_reducible refine Frm.setCell' ?_ ?_); · first | (left; simp; done) | (right; simp; done) | (right; simp; omega)) | ((with_reducible refine Frm.alloc' ?_ ?_); · first | exact Nat.le_refl _ | (simp; done) | (simp; omega)))) (fun x hx => ⟨HC.out.lt x hx, by simp⟩)) hg hn).mono ?_
    intro e w2 hA
    obtain ⟨rfl, hf2, hC2⟩ := ask_of b bG bM _ c n m e w2 hA
    have hsz : w.heap.size + 1 + 1 ≤ w1.heap.size := by have := HF1.out.size; simpa using this
    have hz0 : w2.cell? ⟨w.heap.size + 1, 0, none⟩ = some (.int .i64 0) := (hf2.cell (p := ⟨w.heap.size + 1, 0, none⟩) (by simp; omega) (by simp; omega)).trans e0
    have hz1 : w2.cell? ⟨w.heap.size + 1, 1, none⟩ = some (.int .i64 0) := (hf2.cell (p := ⟨w.heap.size + 1, 1, none⟩) (by simp; omega) (by simp; omega)).trans e1
    have hz2 : w2.cell? ⟨w.heap.size + 1, 2, none⟩ = some (.int .i64 0) := (hf2.cell (p := ⟨w.heap.size + 1, 2, none⟩) (by simp; omega) (by simp; omega)).trans e2
    have hy0 : w2.frozen? ⟨w.heap.size + 1, 0, none⟩ = false := (World.frozen?_of_block (w := w1.drewN _) (a := ⟨w.heap.size + 1, 0, none⟩) (hf2.block (w.heap.size + 1) (by simp; omega) (by simp; omega))).trans y0
    have hy1 : w2.frozen? ⟨w.heap.size + 1, 1, none⟩ = false := (World.frozen?_of_block (w := w1.drewN _) (a := ⟨w.heap.size + 1, 1, none⟩) (hf2.block (w.heap.size + 1) (by simp; omega) (by simp; omega))).trans y1
    have hy2 : w2.frozen? ⟨w.heap.size + 1, 2, none⟩ = false := (World.frozen?_of_block (w := w1.drewN _) (a := ⟨w.heap.size + 1, 2, none⟩) (hf2.block (w.heap.size + 1) (by simp; omega) (by simp; omega))).trans y2
    have hs2 := hf2.size
    have hf2bx := hf2.blk (b := w.heap.size + 1) (T := 41) (cs := [.int .i64 0, .int .i64 0, .int .i64 0]) HBX.out.drewN (by simp; omega) (by simp; omega)
    unfold wordV
    have HF2 := Lib.hid hf2
    have HC2 := Lib.hid hC2
    clear hC2 hf2
    go_wp2
    have kb := (((((hf2bx.set 0 (.int .i64 (c.ask n m).2.1)).set 1 (.int .i64 (c.ask n m).2.2.1)).set 2 (.int .i64 (c.ask n m).2.2.2)).set 0 (.int .i64 (c.ask n m).2.1)).set 1 (.int .i64 (c.ask n m).2.2.1)).set 2 (.int .i64 (c.ask n m).2.2.2)
    obtain ⟨k0, k1, k2⟩ := And.intro (kb.cell 0) (And.intro (kb.cell 1) (kb.cell 2))
    simp only [List.set_cons_zero, List.set_cons_succ, List.getElem?_cons_succ, List.getElem?_cons_zero] at k0 k1 k2
    refine bodyPost_ret (v := .tuple #[wordV (c.hear 1 n m).2, .int .i64 0]) (by simp [results, Try.results31, go_sem, wordV, CS.hear, k0, k1, k2]) rfl ?_
    refine ⟨rfl, ?_, ?_⟩
    · have f3 : Frm w.heap.size [b, bG] w w2 := Frm.call (HFF.out.narrow (by simp)) ((Frm.refl w1.heap.size [b, bG] w1).drewN.call HF2.out (by simp) (fun _ _ h => h)) (by omega) (fun _ _ h => h)
      refine f3.call (B' := w2.heap.size) (S' := [w.heap.size + 1]) ?_ (by simp at hs2; omega) (fun x h1 h2 => by simp at h2; omega)
      repeat (first | with_reducible exact Frm.refl _ _ _ | with_reducible refine Frm.drewN ?_ | with_reducible refine Frm.drew ?_ | ((with_reducible refine Frm.setCell' ?_ ?_); · first | (left; simp; done) | (right; simp; done) | (right; simp; omega)) | ((with_reducible refine Frm.alloc' ?_ ?_); · first | exact Nat.le_refl _ | (simp; done) | (simp; omega)))
    · have : (c.hear 1 n m).1 = (c.ask n m).1 := by simp [CS.hear]
      rw [this]
      refine HC2.out.frm (B := w2.heap.size) (S := [w.heap.size + 1]) (by repeat (first | with_reducible exact Frm.refl _ _ _ | with_reducible refine Frm.drewN ?_ | with_reducible refine Frm.drew ?_ | ((with_reducible refine Frm.setCell' ?_ ?_); · first | (left; simp; done) | (right; simp; done) | (right; simp; omega)) | ((with_reducible refine Frm.alloc' ?_ ?_); · first | exact Nat.le_refl _ | (simp; done) | (simp; omega)))) (fun x hx => ⟨HC2.out.lt x hx, ?_⟩)
      have := H.out.lt x hx
      simp; omega
  · skip
    go_enter Try.func31, Try.ntmps31
    go_wp2_with fail
    refine (centIs _ _ ((H.out.blk.alloc _).alloc _)).mono ?_; rintro e w' ⟨rfl, rfl⟩
    go_wp2_with fail
    refine (valid_frm _ _ _ _).mono ?_; rintro e w1 ⟨rfl, hf1⟩
    rw [HV.out]
    obtain ⟨C1, d0, d1, d2, e0, e1, e2, y0, y1, y2, c7, HF, hbx⟩ := HX.out w1 (by simpa using hf1)
    have hl := fun d => look2 b bM (w1.drewN d) (C1.map)
    have c8 := C1.blk.cell 8
    simp only [centCells, List.getElem?_cons_succ, List.getElem?_cons_zero] at c8
    have HC := Lib.hid C1
    have HF1 := Lib.hid hf1
    have HFF := Lib.hid HF
    have HBX := Lib.hid hbx
    clear hbx HF hf1 C1
    go_wp2_with fail
    go_quiet (fail)
    go_wp2_with fail
    go_quiet (fail)
    go_wp2
    refine bodyPost_ret (v := .tuple #[wordV (c.hear 2 n m).2, .int .i64 0]) (by simp [results, Try.results31, go_sem, wordV, CS.hear, e0, e1, e2]) rfl ?_
    have hsz : w.heap.size + 1 + 1 ≤ w1.heap.size := by have := HF1.out.size; simpa using this
    refine ⟨rfl, ?_, ?_⟩
    · refine Frm.call (HFF.out.narrow (by simp)) (B' := w1.heap.size) (S' := [w.heap.size + 1]) ?_ (by omega) (fun x h1 h2 => by simp at h2; omega)
      repeat (first | with_reducible exact Frm.refl _ _ _ | with_reducible refine Frm.drewN ?_ | with_reducible refine Frm.drew ?_ | ((with_reducible refine Frm.setCell' ?_ ?_); · first | (left; simp; done) | (right; simp; done) | (right; simp; omega)) | ((with_reducible refine Frm.alloc' ?_ ?_); · first | exact Nat.le_refl _ | (simp; done) | (simp; omega)))
    · have : (c.hear 2 n m).1 = c := by simp [CS.hear]
      rw [this]
      refine HC.out.frm (B := w1.heap.size) (S := [w.heap.size + 1]) (by repeat (first | with_reducible exact Frm.refl _ _ _ | with_reducible refine Frm.drewN ?_ | with_reducible refine Frm.drew ?_ | ((with_reducible refine Frm.setCell' ?_ ?_); · first | (left; simp; done) | (right; simp; done) | (right; simp; omega)) | ((with_reducible refine Frm.alloc' ?_ ?_); · first | exact Nat.le_refl _ | (simp; done) | (simp; omega)))) (fun x hx => ⟨HC.out.lt x hx, ?_⟩)
      have := H.out.lt x hx
      simp; omega
  · skip
    go_enter Try.func31, Try.ntmps31
    go_wp2_with fail
    refine (centIs _ _ ((H.out.blk.alloc _).alloc _)).mono ?_; rintro e w' ⟨rfl, rfl⟩
    go_wp2_with fail
    refine (valid_frm _ _ _ _).mono ?_; rintro e w1 ⟨rfl, hf1⟩
    rw [HV.out]
    obtain ⟨C1, d0, d1, d2, e0, e1, e2, y0, y1, y2, c7, HF, hbx⟩ := HX.out w1 (by simpa using hf1)
    have hl := fun d => look3 b bM (w1.drewN d) (C1.map)
    have c8 := C1.blk.cell 8
    simp only [centCells, List.getElem?_cons_succ, List.getElem?_cons_zero] at c8
    have HC := Lib.hid C1
    have HF1 := Lib.hid hf1
    have HFF := Lib.hid HF
    have HBX := Lib.hid hbx
    clear hbx HF hf1 C1
    go_wp2_with fail
    go_quiet (fail)
    go_wp2_with fail
    go_quiet (fail)
    go_wp2_with fail
    refine (back_any b _ 3 n m (HC.out.frm (B := w1.heap.size) (S := []) (by repeat (first | with_reducible exact Frm.refl _ _ _ | with_reducible refine Frm.drewN ?_ | with_reducible refine Frm.drew ?_ | ((with_reducible refine Frm.setCell' ?_ ?_); · first | (left; simp; done) | (right; simp; done) | (right; simp; omega)) | ((with_reducible refine Frm.alloc' ?_ ?_); · first | exact Nat.le_refl _ | (simp; done) | (simp; omega)))) (fun x hx => ⟨HC.out.lt x hx, by simp⟩)) hg hn).mono ?_
    intro e w2 hA
    obtain ⟨rfl, hf2, hC2⟩ := back_of b bG bM _ c n m e w2 hA
    have hsz : w.heap.size + 1 + 1 ≤ w1.heap.size := by have := HF1.out.size; simpa using this
    have hz0 : w2.cell? ⟨w.heap.size + 1, 0, none⟩ = some (.int .i64 0) := (hf2.cell (p := ⟨w.heap.size + 1, 0, none⟩) (by simp; omega) (by simp; omega)).trans e0
    have hz1 : w2.cell? ⟨w.heap.size + 1, 1, none⟩ = some (.int .i64 0) := (hf2.cell (p := ⟨w.heap.size + 1, 1, none⟩) (by simp; omega) (by simp; omega)).trans e1
    have hz2 : w2.cell? ⟨w.heap.size + 1, 2, none⟩ = some (.int .i64 0) := (hf2.cell (p := ⟨w.heap.size + 1, 2, none⟩) (by simp; omega) (by simp; omega)).trans e2
    have hy0 : w2.frozen? ⟨w.heap.size + 1, 0, none⟩ = false := (World.frozen?_of_block (w := w1.drewN _) (a := ⟨w.heap.size + 1, 0, none⟩) (hf2.block (w.heap.size + 1) (by simp; omega) (by simp; omega))).trans y0
    have hy1 : w2.frozen? ⟨w.heap.size + 1, 1, none⟩ = false := (World.frozen?_of_block (w := w1.drewN _) (a := ⟨w.heap.size + 1, 1, none⟩) (hf2.block (w.heap.size + 1) (by simp; omega) (by simp; omega))).trans y1
    have hy2 : w2.frozen? ⟨w.heap.size + 1, 2, none⟩ = false := (World.frozen?_of_block (w := w1.drewN _) (a := ⟨w.heap.size + 1, 2, none⟩) (hf2.block (w.heap.size + 1) (by simp; omega) (by simp; omega))).trans y2
    have hs2 := hf2.size
    have hf2bx := hf2.blk (b := w.heap.size + 1) (T := 41) (cs := [.int .i64 0, .int .i64 0, .int .i64 0]) HBX.out.drewN (by simp; omega) (by simp; omega)
    unfold wordV
    have HF2 := Lib.hid hf2
    have HC2 := Lib.hid hC2
    clear hC2 hf2
    go_wp2
    have kb := (((((hf2bx.set 0 (.int .i64 0)).set 1 (.int .i64 0)).set 2 (.int .i64 0)).set 0 (.int .i64 0)).set 1 (.int .i64 0)).set 2 (.int .i64 0)
    obtain ⟨k0, k1, k2⟩ := And.intro (kb.cell 0) (And.intro (kb.cell 1) (kb.cell 2))
    simp only [List.set_cons_zero, List.set_cons_succ, List.getElem?_cons_succ, List.getElem?_cons_zero] at k0 k1 k2
    refine bodyPost_ret (v := .tuple #[wordV (c.hear 3 n m).2, .int .i64 0]) (by simp [results, Try.results31, go_sem, wordV, CS.hear, k0, k1, k2]) rfl ?_
    refine ⟨rfl, ?_, ?_⟩
    · have f3 : Frm w.heap.size [b, bG] w w2 := Frm.call (HFF.out.narrow (by simp)) ((Frm.refl w1.heap.size [b, bG] w1).drewN.call HF2.out (by simp) (fun _ _ h => h)) (by omega) (fun _ _ h => h)
      refine f3.call (B' := w2.heap.size) (S' := [w.heap.size + 1]) ?_ (by simp at hs2; omega) (fun x h1 h2 => by simp at h2; omega)
      repeat (first | with_reducible exact Frm.refl _ _ _ | with_reducible refine Frm.drewN ?_ | with_reducible refine Frm.drew ?_ | ((with_reducible refine Frm.setCell' ?_ ?_); · first | (left; simp; done) | (right; simp; done) | (right; simp; omega)) | ((with_reducible refine Frm.alloc' ?_ ?_); · first | exact Nat.le_refl _ | (simp; done) | (simp; omega)))
    · have : (c.hear 3 n m).1 = c.back n m := by simp [CS.hear]
      rw [this]
      refine HC2.out.frm (B := w2.heap.size) (S := [w.heap.size + 1]) (by repeat (first | with_reducible exact Frm.refl _ _ _ | with_reducible refine Frm.drewN ?_ | with_reducible refine Frm.drew ?_ | ((with_reducible refine Frm.setCell' ?_ ?_); · first | (left; simp; done) | (right; simp; done) | (right; simp; omega)) | ((with_reducible refine Frm.alloc' ?_ ?_); · first | exact Nat.le_refl _ | (simp; done) | (simp; omega)))) (fun x hx => ⟨HC2.out.lt x hx, ?_⟩)
      have := H.out.lt x hx
      simp; omega
end
end Go.Proofs.Ythmladcepkdheaa
