/-
  Which steps are ahead of which, by the document.
-/
import Derived.Test.YtfmigicmfolbjaaDoorE2
namespace Go.Proofs.YtfmigicmfolbjaaDoor
set_option linter.all false
set_option linter.unusedSimpArgs false
set_option linter.unusedVariables false
open Go.RowKit

def bitsC (n s : Nat) : List Value := (List.range n).map fun j => .bool (s.testBit j)
def rowsC (n B i : Nat) : List Value := (List.range n).map fun k => if k < i then .slice (some ⟨B + 1 + k, 0, none⟩) n n else .slice none 0 0
theorem bitsC_at {n s j : Nat} (hj : j < n) : (bitsC n s)[j]? = some (.bool (s.testBit j)) := by simp [bitsC, hj]
theorem rowsC_at {n B i k : Nat} (hk : k < n) (hi : k < i) : (rowsC n B i)[k]? = some (.slice (some ⟨B + 1 + k, 0, none⟩) n n) := by simp [rowsC, hk, hi]
theorem rowsC_no {n B i k : Nat} (hk : k < n) (hi : ¬ k < i) : (rowsC n B i)[k]? = some (.slice none 0 0) := by simp [rowsC, hk, hi]
theorem bitsC_set {n s j : Nat} : (bitsC n s).set j (.bool true) = bitsC n (s ||| 1 <<< j) := by
  apply List.ext_getElem?
  intro x
  rw [List.getElem?_set]
  simp only [bitsC, List.length_map, List.length_range, List.getElem?_map]
  by_cases hx : x < n
  · by_cases h : j = x
    · subst h; simp [hx, Nat.testBit_or, Nat.testBit_shiftLeft]
    · have : (1 <<< j).testBit x = false := by
        rw [Nat.shiftLeft_eq, Nat.one_mul, Nat.testBit_two_pow]
        simp [h]
      rw [if_neg h]
      simp only [List.getElem?_range hx, Option.map_some, Nat.testBit_or, this, Bool.or_false]
  · by_cases h : j = x
    · subst h; simp [hx]
    · simp [hx, h]
theorem rowsC_set {n B i : Nat} : (rowsC n B i).set i (.slice (some ⟨B + 1 + i, 0, none⟩) n n) = rowsC n B (i + 1) := by
  apply List.ext_getElem?
  intro x
  rw [List.getElem?_set]
  simp only [rowsC, List.length_map, List.length_range, List.getElem?_map]
  by_cases hx : x < n
  · by_cases h : i = x
    · subst h; simp [hx]
    · have e : (x < i + 1) = (x < i) := by apply propext; omega
      simp [hx, h, e]
  · by_cases h : i = x
    · subst h; simp [hx]
    · simp [hx, h]
/-- A matrix in memory: f i: the bits of row i. -/
structure MatAt (w : World) (n B : Nat) (f : Nat → Nat) : Prop where
  rows : Blk w B 72 (rowsC n B n)
  each : ∀ i, i < n → Blk w (B + 1 + i) 4 (bitsC n (f i))
theorem MatAt.frm {w w' : World} {n B N : Nat} {f : Nat → Nat} (h : MatAt w n B f) (hf : Frm N [] w w') (hN : w.heap.size ≤ N) : MatAt w' n B f :=
  ⟨hf.blk h.rows (Nat.lt_of_lt_of_le h.rows.lt hN) (by simp), fun i hi => hf.blk (h.each i hi) (Nat.lt_of_lt_of_le (h.each i hi).lt hN) (by simp)⟩
theorem MatAt.drew {w : World} {n B : Nat} {f : Nat → Nat} (h : MatAt w n B f) : MatAt w.drew n B f := ⟨h.rows, h.each⟩
theorem MatAt.put {w : World} {n B i j : Nat} {f : Nat → Nat} (h : MatAt w n B f) (hi : i < n) : MatAt (w.setCell ⟨B + 1 + i, j, none⟩ (.bool true)) n B (upd f i (f i ||| 1 <<< j)) := by
  refine ⟨h.rows.other _ (by dsimp only; omega) _, fun k hk => ?_⟩
  unfold upd
  by_cases e : k = i
  · subst e
    rw [if_pos rfl, ← bitsC_set]
    exact (h.each k hk).set j _
  · rw [if_neg e]
    exact (h.each k hk).other _ (by dsimp only; omega) _
theorem MatAt.congr {w : World} {n B : Nat} {f g : Nat → Nat} (h : MatAt w n B f) (hg : ∀ i, i < n → g i = f i) : MatAt w n B g := ⟨h.rows, fun i hi => by rw [hg i hi]; exact h.each i hi⟩
theorem MatAt.row {w : World} {n B i : Nat} {f : Nat → Nat} (h : MatAt w n B f) (hi : i < n) : w.cell? ⟨B, i, none⟩ = some (.slice (some ⟨B + 1 + i, 0, none⟩) n n) := by
  rw [h.rows.cell i]; exact rowsC_at hi hi
theorem MatAt.bit {w : World} {n B i j : Nat} {f : Nat → Nat} (h : MatAt w n B f) (hi : i < n) (hj : j < n) : w.cell? ⟨B + 1 + i, j, none⟩ = some (.bool ((f i).testBit j)) := by
  rw [(h.each i hi).cell j]; exact bitsC_at hj
theorem made_rows (n B : Nat) : madeCells #[Value.slice none 0 0] n = (rowsC n B 0).toArray := by
  apply Array.ext
  · simp [madeCells, rowsC]
  · intro i h1 h2
    simp [madeCells, rowsC, Nat.mod_one]
theorem made_bits (n : Nat) : madeCells #[Value.bool false] n = (bitsC n 0).toArray := by
  apply Array.ext
  · simp [madeCells, bitsC]
  · intro i h1 h2
    simp [madeCells, bitsC, Nat.mod_one]
theorem run_make_rows (n B : Nat) (hn : n ≤ 1000000) (w : World) : (Instr.makeSlice 106 (.int .i64 (n : Int)) (.int .i64 (n : Int))).run Tryd.prog w =
    .ok (.slice (some ⟨w.heap.size, 0, none⟩) n n) (w.alloc (.cells (rowsC n B 0).toArray 72)) := by
  rw [← made_rows]
  exact run_make_row' 106 72 (.slice none 0 0) 24 Tryd.underlying106 (by kernel_rfl) rfl .i64 .i64 n (by omega) (by omega) w
theorem run_make_bits (n : Nat) (hn : n ≤ 1000000) (w : World) : (Instr.makeSlice 72 (.int .i64 (n : Int)) (.int .i64 (n : Int))).run Tryd.prog w =
    .ok (.slice (some ⟨w.heap.size, 0, none⟩) n n) (w.alloc (.cells (bitsC n 0).toArray 4)) := by
  rw [← made_bits]
  exact run_make_row' 72 4 (.bool false) 1 Tryd.underlying72 (by kernel_rfl) rfl .i64 .i64 n (by omega) (by omega) w
/-- Row i, as far as column j. -/
def partF (k i : Nat) (a : Nat → Nat) (j : Nat) : Nat → Nat := if (a i).testBit k = true then upd a i (a i ||| (a k % 2 ^ j)) else a
theorem part_zero (k i : Nat) (a : Nat → Nat) : partF k i a 0 = a := by
  unfold partF
  split
  · funext x
    unfold upd
    split
    · rename_i h; subst h; simp [Nat.mod_one]
    · rfl
  · rfl
theorem mod_succ (t j : Nat) : t % 2 ^ (j + 1) = if t.testBit j = true then t % 2 ^ j ||| 1 <<< j else t % 2 ^ j := by
  apply Nat.eq_of_testBit_eq
  intro x
  rw [Nat.testBit_mod_two_pow]
  split
  · rename_i h
    rw [Nat.testBit_or, Nat.testBit_mod_two_pow, Nat.shiftLeft_eq, Nat.one_mul, Nat.testBit_two_pow]
    rcases Nat.lt_trichotomy x j with c | c | c
    · simp [c, show x < j + 1 by omega, show ¬ j = x by omega]
    · subst c; simp [h]
    · simp [show ¬ x < j by omega, show ¬ x < j + 1 by omega, show ¬ j = x by omega]
  · rename_i h
    rw [Nat.testBit_mod_two_pow]
    rcases Nat.lt_trichotomy x j with c | c | c
    · simp [c, show x < j + 1 by omega]
    · subst c; simp [h]
    · simp [show ¬ x < j by omega, show ¬ x < j + 1 by omega]
theorem part_k (k i : Nat) (a : Nat → Nat) (j : Nat) : ((partF k i a j) i).testBit k = (a i).testBit k := by
  unfold partF
  split
  · rename_i h
    unfold upd
    rw [if_pos rfl, Nat.testBit_or, h]; rfl
  · rfl
theorem part_j (k i : Nat) (a : Nat → Nat) (j : Nat) (h : (a i).testBit k = true) : ((partF k i a j) k).testBit j = (a k).testBit j := by
  unfold partF
  rw [if_pos h]
  unfold upd
  split
  · rename_i e
    subst e
    rw [Nat.testBit_or, Nat.testBit_mod_two_pow]
    simp
  · rfl
theorem part_set (k i : Nat) (a : Nat → Nat) (j : Nat) (h : (a i).testBit k = true) (hj : (a k).testBit j = true) : upd (partF k i a j) i ((partF k i a j) i ||| 1 <<< j) = partF k i a (j + 1) := by
  unfold partF
  rw [if_pos h, if_pos h]
  funext x
  unfold upd
  by_cases e : x = i
  · rw [if_pos e, if_pos e, if_pos rfl, mod_succ, if_pos hj, Nat.or_assoc]
  · rw [if_neg e, if_neg e, if_neg e]
theorem part_skip (k i : Nat) (a : Nat → Nat) (j : Nat) (hj : ¬ ((a i).testBit k = true ∧ (a k).testBit j = true)) : partF k i a (j + 1) = partF k i a j := by
  unfold partF
  split
  · rename_i h
    rw [mod_succ, if_neg (fun e => hj ⟨h, e⟩)]
  · rfl
theorem part_end (k i n : Nat) (a : Nat → Nat) (hk : a k < 2 ^ n) : partF k i a n = if (a i).testBit k = true then upd a i (a i ||| a k) else a := by
  unfold partF
  rw [Nat.mod_eq_of_lt hk]

set_option maxRecDepth 100000 in
set_option maxHeartbeats 16000000 in
theorem ahead_any (n : Nat) (hn : n ≤ 12) (es : List (Int × Int)) (ea : Option Addr) (eb eo ec : Nat) (a : Nat → Nat) (ha : edgesO n es = some a) (w : World) (hr : Rw w 2 ea eb eo es.length fun i => edgeC (es.getD i (0, 0))) :
    Calls Tryd.prog 67 #[.int .i64 (n : Int), .slice ea es.length ec] w fun e w' => e = .returned (.slice (some ⟨w.heap.size, 0, none⟩) n n) ∧ MatAt w' n w.heap.size (closeK n a n) ∧ Frm w.heap.size [] w w' := by
  have hf0 := Tryd.func67
  obtain ⟨m, hm⟩ : ∃ m, m = es.length := ⟨_, rfl⟩
  obtain ⟨B, hB⟩ : ∃ B, B = w.heap.size := ⟨_, rfl⟩
  have hmk := fun V => run_make_rows n B (by omega) V
  have hmb := fun V => run_make_bits n (by omega) V
  have hlen : n ≤ maxLen := by unfold maxLen; omega
  have hlm : m ≤ maxLen := by rw [hm]; exact hr.len
  have hn0 : (0 : Int) ≤ (n : Int) := by omega
  rw [← hm, ← hB]
  have HR := Lib.hid hr
  have HA := Lib.hid ha
  have HM := Lib.hid hm
  have HMB := Lib.hid hmb
  clear hmb hm ha hr
  go_enter Tryd.func67, Tryd.ntmps67
  go_upto_region 2 with fail
  refine namedC ?_; intro W hW
  have k0 : Blk W B 72 (rowsC n B 0) := by rw [hW, hB]; exact Blk.new w 72 (rowsC n w.heap.size 0)
  have hf : Frm B [] w W := by rw [hW, hB]; repeat (first | with_reducible exact Frm.refl _ _ _ | with_reducible refine Frm.drewN ?_ | with_reducible refine Frm.drew ?_ | ((with_reducible refine Frm.setCell' ?_ ?_); · first | (left; simp; done) | (right; simp; done) | (right; simp; omega)) | ((with_reducible refine Frm.alloc' ?_ ?_); · first | exact Nat.le_refl _ | (simp; done) | (simp; omega)))
  have hsz : W.heap.size = B + 1 := by rw [hW, hB]; simp
  clear hW hf0 hmk
  rw [← hB]
  have K0 := Lib.hid k0
  have HF := Lib.hid hf
  have HSZ := Lib.hid hsz
  have HBE := Lib.hid hB
  clear hB hsz hf k0
  go_wp2_with fail
  -- the rows
  go_loopw [6] (fun s6 wr => ∃ i : Nat, s6 = .int .i64 i ∧ i ≤ n ∧ wr.heap.size = B + 1 + i ∧ Blk wr B 72 (rowsC n B i) ∧ (∀ k, k < i → Blk wr (B + 1 + k) 4 (bitsC n 0)) ∧ Frm B [] w wr) (fun s6 _ => n - (intOf s6).toNat)
  case atStart => exact ⟨0, rfl, Nat.zero_le _, HSZ.out, K0.out, fun k hk => absurd hk (by omega), HF.out⟩
  case round =>
    clear K0 HF HSZ
    obtain ⟨i, rfl, hi, hz, hb, hall, hfr⟩ := hrel
    by_cases hin : i < n
    · have hin' : (i : Int) < (n : Int) := by omega
      obtain ⟨w4, w5⟩ := wrapUp hin hlen
      have hms := meas_up hin
      have hmb := HMB.out
      have g1 : ∀ o, (wr.alloc o).cell? ⟨B, i, none⟩ = some (.slice none 0 0) := fun o => by rw [(hb.alloc o).cell i]; exact rowsC_no hin (by omega)
      have g2 : ∀ o, (wr.alloc o).frozen? ⟨B, i, none⟩ = false := fun o => (hb.alloc o).free i
      have HZ := Lib.hid hz
      have HB := Lib.hid hb
      have HALL := Lib.hid hall
      have HFR := Lib.hid hfr
      have HIN := Lib.hid hin
      have HMS := Lib.hid hms
      clear hms hin hfr hall hb hz
      go_wp2_with fail
      (try simp only [w4, w5])
      have hzz := HZ.out
      refine ⟨⟨i + 1, by simp, HIN.out, by simp; omega, ?_, fun k hk => ?_, (HFR.out.alloc (by omega) _).setCell (p := ⟨B, i, none⟩) (.inr (by dsimp only; omega)) _⟩, HMS.out⟩
      · rw [← rowsC_set, ← hzz]
        exact (HB.out.alloc _).set i _
      · refine Blk.other' (by dsimp only; omega) ?_
        rcases Nat.lt_or_ge k i with h | h
        · exact (HALL.out k h).alloc _
        · obtain rfl : k = i := by omega
          exact Blk.new' _ 4 (bitsC n 0) hzz
    · have hin' : ¬ (i : Int) < (n : Int) := by omega
      obtain rfl : i = n := by omega
      have hmat : MatAt wr i B (fun _ => 0) := ⟨hb, hall⟩
      obtain ⟨W1, hW1⟩ : ∃ V, V = wr := ⟨_, rfl⟩
      rw [← hW1] at hmat hfr ⊢
      clear hz hb hall hW1 wr
      have HMAT := Lib.hid hmat
      have HFR := Lib.hid hfr
      clear hfr hmat
      go_wp2_with fail
      -- the orders
      go_loopw [7] (fun s7 wr => ∃ k : Nat, s7 = .int .i64 k ∧ k ≤ m ∧ (∃ f : Nat → Nat, (es.take k).foldl (edgeO i) (some fun _ => 0) = some f ∧ MatAt wr i B f) ∧ Frm B [] w wr) (fun s7 _ => m - (intOf s7).toNat)
      case atStart => exact ⟨0, rfl, Nat.zero_le _, ⟨_, rfl, HMAT.out⟩, HFR.out⟩
      case round =>
        clear HMAT HFR
        obtain ⟨k, rfl, hk, ⟨f, hf, hmat⟩, hfr⟩ := hrel
        by_cases hkm : k < m
        · have hkm' : (k : Int) < (m : Int) := by omega
          have hkR : k < es.length := by have := HM.out; omega
          obtain ⟨w4, w5⟩ := wrapUp hkm hlm
          have hms := meas_up hkm
          obtain ⟨e, he⟩ : ∃ r, r = es.getD k (0, 0) := ⟨_, rfl⟩
          obtain ⟨A, C⟩ := e
          have hnx := edges_next (n := i) hkR he
          rw [hf] at hnx
          have hin2 : (inB A 0 ((i : Int) - 1) && inB C 0 ((i : Int) - 1)) = true := by
            cases hc : (inB A 0 ((i : Int) - 1) && inB C 0 ((i : Int) - 1))
            · have h1 : edgeO i (some f) (A, C) = none := by unfold edgeO; exact if_neg (by rw [hc]; simp)
              rw [h1] at hnx
              have := edges_pre hnx
              rw [HA.out] at this; cases this
            · rfl
          have hnx2 : (es.take (k + 1)).foldl (edgeO i) (some fun _ => 0) = some (upd f A.toNat (f A.toNat ||| 1 <<< C.toNat)) := by
            rw [hnx]; unfold edgeO; exact if_pos hin2
          rw [Bool.and_eq_true] at hin2
          have hA0 := inB_iff.1 hin2.1
          have hC0 := inB_iff.1 hin2.2
          obtain ⟨x, rfl⟩ : ∃ x : Nat, A = x := ⟨A.toNat, by omega⟩
          obtain ⟨y, rfl⟩ : ∃ y : Nat, C = y := ⟨C.toNat, by omega⟩
          simp only [Int.toNat_natCast] at hnx2
          have hx : x < i := by omega
          have hy : y < i := by omega
          have hx' : (x : Int) < (i : Int) := by omega
          have hy' : (y : Int) < (i : Int) := by omega
          have hrw := HR.out.frm hfr (by rw [HBE.out]; exact Nat.le_refl _)
          have had := hrw.ad (by omega)
          subst had
          obtain ⟨r, hr2⟩ : ∃ r, r = B + 1 + x := ⟨_, rfl⟩
          have hfx : ∀ V, Frm wr.heap.size [] wr V → V.cell? ⟨eb, eo + k * 2, none⟩ = some (.int .i64 (x : Int)) ∧ V.cell? ⟨eb, eo + k * 2 + 1, none⟩ = some (.int .i64 (y : Int)) ∧ V.cell? ⟨B, x, none⟩ = some (.slice (some ⟨r, 0, none⟩) i i) ∧ V.cell? ⟨r, y, none⟩ = some (.bool ((f x).testBit y)) ∧ V.frozen? ⟨r, y, none⟩ = false := fun V hV => by
            have h1 := hrw.frm hV (Nat.le_refl _)
            have h2 := hmat.frm hV (Nat.le_refl _)
            have h3 := h1.at_ k hkR 0 _ rfl
            have h4 := h1.at_ k hkR 1 _ rfl
            rw [← he] at h3 h4
            rw [Nat.add_zero] at h3
            rw [hr2]
            exact ⟨h3, h4, h2.row hx, h2.bit hx hy, (h2.each x hx).free y⟩
          clear hnx hin2 hA0 hC0 hrw
          have HFF := Lib.hid hf
          have HMAT := Lib.hid hmat
          have HFR := Lib.hid hfr
          have HKM := Lib.hid hkm
          have HKR := Lib.hid hkR
          have HMS := Lib.hid hms
          have HE := Lib.hid he
          have HNX := Lib.hid hnx2
          have HX := Lib.hid hx
          have HY := Lib.hid hy
          have HRR := Lib.hid hr2
          have HFX := Lib.hid hfx
          clear hfx hr2 hy hx hnx2 he hms hkR hkm hfr hmat hf
          have hx := HX.out
          have hy := HY.out
          go_upto_region 9 with fail
          refine wp_region_leftL (fun V => Frm wr.heap.size [] wr V) 14 (by kernel_rfl) ?_
          have hS : Frm wr.heap.size [] wr wr.drew := (Frm.refl _ _ wr).drew
          have HS := Lib.hid hS
          clear hS
          first | ((first | refine LeftL.tkF (v := ?_) 0 rfl HS.out ?_ ?_ | refine LeftL.tkG (v := ?_) 0 rfl HS.out ?_ ?_); rotate_left; (· intro V hV; obtain ⟨q0, q1, q2, q3, q4⟩ := HFX.out V hV; clear hV; go_simp; rfl)) | refine LeftL.tkN 0 rfl HS.out ?_
          (intro K' hK'; go_simp; refine hK' _ ?_; clear hK' K')
          first | ((first | refine LeftL.tkF (v := ?_) 1 rfl HS.out ?_ ?_ | refine LeftL.tkG (v := ?_) 1 rfl HS.out ?_ ?_); rotate_left; (· intro V hV; obtain ⟨q0, q1, q2, q3, q4⟩ := HFX.out V hV; clear hV; go_simp; rfl)) | refine LeftL.tkN 1 rfl HS.out ?_
          (intro K' hK'; go_simp; refine hK' _ ?_; clear hK' K')
          first | ((first | refine LeftL.tkF (v := ?_) 2 rfl HS.out ?_ ?_ | refine LeftL.tkG (v := ?_) 2 rfl HS.out ?_ ?_); rotate_left; (· intro V hV; obtain ⟨q0, q1, q2, q3, q4⟩ := HFX.out V hV; clear hV; go_simp; rfl)) | refine LeftL.tkN 2 rfl HS.out ?_
          (intro K' hK'; go_simp; refine hK' _ ?_; clear hK' K')
          first | ((first | refine LeftL.tkF (v := ?_) 3 rfl HS.out ?_ ?_ | refine LeftL.tkG (v := ?_) 3 rfl HS.out ?_ ?_); rotate_left; (· intro V hV; obtain ⟨q0, q1, q2, q3, q4⟩ := HFX.out V hV; clear hV; go_simp; rfl)) | refine LeftL.tkN 3 rfl HS.out ?_
          (intro K' hK'; go_simp; refine hK' _ ?_; clear hK' K')
          first | ((first | refine LeftL.tkF (v := ?_) 4 rfl HS.out ?_ ?_ | refine LeftL.tkG (v := ?_) 4 rfl HS.out ?_ ?_); rotate_left; (· intro V hV; obtain ⟨q0, q1, q2, q3, q4⟩ := HFX.out V hV; clear hV; go_simp; rfl)) | refine LeftL.tkN 4 rfl HS.out ?_
          (intro K' hK'; go_simp; refine hK' _ ?_; clear hK' K')
          first | ((first | refine LeftL.tkF (v := ?_) 5 rfl HS.out ?_ ?_ | refine LeftL.tkG (v := ?_) 5 rfl HS.out ?_ ?_); rotate_left; (· intro V hV; obtain ⟨q0, q1, q2, q3, q4⟩ := HFX.out V hV; clear hV; go_simp; rfl)) | refine LeftL.tkN 5 rfl HS.out ?_
          (intro K' hK'; go_simp; refine hK' _ ?_; clear hK' K')
          first | ((first | refine LeftL.tkF (v := ?_) 6 rfl HS.out ?_ ?_ | refine LeftL.tkG (v := ?_) 6 rfl HS.out ?_ ?_); rotate_left; (· intro V hV; obtain ⟨q0, q1, q2, q3, q4⟩ := HFX.out V hV; clear hV; go_simp; rfl)) | refine LeftL.tkN 6 rfl HS.out ?_
          (intro K' hK'; go_simp; refine hK' _ ?_; clear hK' K')
          first | ((first | refine LeftL.tkF (v := ?_) 7 rfl HS.out ?_ ?_ | refine LeftL.tkG (v := ?_) 7 rfl HS.out ?_ ?_); rotate_left; (· intro V hV; obtain ⟨q0, q1, q2, q3, q4⟩ := HFX.out V hV; clear hV; go_simp; rfl)) | refine LeftL.tkN 7 rfl HS.out ?_
          (intro K' hK'; go_simp; refine hK' _ ?_; clear hK' K')
          first | ((first | refine LeftL.tkF (v := ?_) 8 rfl HS.out ?_ ?_ | refine LeftL.tkG (v := ?_) 8 rfl HS.out ?_ ?_); rotate_left; (· intro V hV; obtain ⟨q0, q1, q2, q3, q4⟩ := HFX.out V hV; clear hV; go_simp; rfl)) | refine LeftL.tkN 8 rfl HS.out ?_
          (intro K' hK'; go_simp; refine hK' _ ?_; clear hK' K')
          first | ((first | refine LeftL.tkF (v := ?_) 9 rfl HS.out ?_ ?_ | refine LeftL.tkG (v := ?_) 9 rfl HS.out ?_ ?_); rotate_left; (· intro V hV; obtain ⟨q0, q1, q2, q3, q4⟩ := HFX.out V hV; clear hV; go_simp; rfl)) | refine LeftL.tkN 9 rfl HS.out ?_
          (intro K' hK'; go_simp; refine hK' _ ?_; clear hK' K')
          first | ((first | refine LeftL.tkF (v := ?_) 10 rfl HS.out ?_ ?_ | refine LeftL.tkG (v := ?_) 10 rfl HS.out ?_ ?_); rotate_left; (· intro V hV; obtain ⟨q0, q1, q2, q3, q4⟩ := HFX.out V hV; clear hV; go_simp; rfl)) | refine LeftL.tkN 10 rfl HS.out ?_
          (intro K' hK'; go_simp; refine hK' _ ?_; clear hK' K')
          first | ((first | refine LeftL.tkF (v := ?_) 11 rfl HS.out ?_ ?_ | refine LeftL.tkG (v := ?_) 11 rfl HS.out ?_ ?_); rotate_left; (· intro V hV; obtain ⟨q0, q1, q2, q3, q4⟩ := HFX.out V hV; clear hV; go_simp; rfl)) | refine LeftL.tkN 11 rfl HS.out ?_
          (intro K' hK'; go_simp; refine hK' _ ?_; clear hK' K')
          first | ((first | refine LeftL.tkF (v := ?_) 12 rfl HS.out ?_ ?_ | refine LeftL.tkG (v := ?_) 12 rfl HS.out ?_ ?_); rotate_left; (· intro V hV; obtain ⟨q0, q1, q2, q3, q4⟩ := HFX.out V hV; clear hV; go_simp; rfl)) | refine LeftL.tkN 12 rfl HS.out ?_
          (intro K' hK'; go_simp; refine hK' _ ?_; clear hK' K')
          first | ((first | refine LeftL.tkF (v := ?_) 13 rfl HS.out ?_ ?_ | refine LeftL.tkG (v := ?_) 13 rfl HS.out ?_ ?_); rotate_left; (· intro V hV; obtain ⟨q0, q1, q2, q3, q4⟩ := HFX.out V hV; clear hV; go_simp; rfl)) | refine LeftL.tkN 13 rfl HS.out ?_
          (intro K' hK'; go_simp; refine hK' _ ?_; clear hK' K')
          obtain ⟨q0, q1, q2, q3, q4⟩ := HFX.out _ HS.out
          refine LeftL.one 14 rfl (by kernel_rfl) ?_
          go_wp2_with fail
          refine ⟨fun h => absurd rfl h, ?_⟩
          have hm2 : MatAt (wr.drew.setCell ⟨r, y, none⟩ (.bool true)) i B (upd f x (f x ||| 1 <<< y)) := by rw [HRR.out]; exact HMAT.out.drew.put HX.out
          have hf2 : Frm B [] w (wr.drew.setCell ⟨r, y, none⟩ (.bool true)) := HFR.out.drew.setCell (p := ⟨r, y, none⟩) (.inr (by dsimp only; rw [HRR.out]; omega)) _
          refine namedLL ?_; intro U hU
          replace hm2 : MatAt U i B (upd f x (f x ||| 1 <<< y)) := by rw [hU]; exact hm2
          replace hf2 : Frm B [] w U := by rw [hU]; exact hf2
          clear hU HS HFX HMAT HFR q0 q1 q2 q3 q4 hx hy
          have HMAT := Lib.hid hm2
          have HFR := Lib.hid hf2
          clear hf2 hm2
          refine LeftL.done (by kernel_rfl) ?_
          go_wp2_with fail
          (try simp only [w4, w5])
          exact ⟨⟨k + 1, by simp, HKM.out, ⟨_, HNX.out, HMAT.out⟩, HFR.out⟩, HMS.out⟩
        · have hkm' : ¬ (k : Int) < (m : Int) := by omega
          obtain rfl : k = m := by omega
          have hfa : f = a := by
            have h1 : edgesO i es = some f := by unfold edgesO; rw [← List.take_length (l := es), ← HM.out]; exact hf
            rw [HA.out] at h1
            exact (Option.some.inj h1).symm
          subst hfa
          obtain ⟨W2, hW2⟩ : ∃ V, V = wr := ⟨_, rfl⟩
          rw [← hW2] at hmat hfr ⊢
          have hal : ∀ j, j < i → f j < 2 ^ i := edges_lt _ (fun _ => 0) f (fun j _ => Nat.pow_pos (by omega)) HA.out
          clear hW2 hf wr
          have HMAT := Lib.hid hmat
          have HFR := Lib.hid hfr
          have HAL := Lib.hid hal
          clear hal hfr hmat
          go_wp2_with fail
          -- closing
          go_loopw [8] (fun s8 wr => ∃ k : Nat, s8 = .int .i64 k ∧ k ≤ i ∧ MatAt wr i B (closeK i f k) ∧ Frm B [] w wr) (fun s8 _ => i - (intOf s8).toNat)
          case atStart => exact ⟨0, rfl, Nat.zero_le _, HMAT.out, HFR.out⟩
          case round =>
            clear HMAT HFR
            obtain ⟨k, rfl, hk, hmat, hfr⟩ := hrel
            by_cases hki : k < i
            rotate_left
            · have hki' : ¬ (k : Int) < (i : Int) := by omega
              obtain rfl : k = i := by omega
              have HMAT := Lib.hid hmat
              have HFR := Lib.hid hfr
              clear hfr hmat
              go_wp2_with fail
              go_ret
              exact ⟨rfl, HMAT.out, HFR.out⟩
            have hki' : (k : Int) < (i : Int) := by omega
            obtain ⟨w4, w5⟩ := wrapUp hki hlen
            have hms := meas_up hki
            obtain ⟨a1, ha1⟩ : ∃ x, x = closeK i f k := ⟨_, rfl⟩
            have hal1 : ∀ j, j < i → a1 j < 2 ^ i := by rw [ha1]; exact closeK_lt HAL.out k hk
            rw [← ha1] at hmat
            have hnk : closeK i f (k + 1) = closeI k a1 i := by rw [ha1]; rfl
            obtain ⟨W3, hW3⟩ : ∃ V, V = wr := ⟨_, rfl⟩
            rw [← hW3] at hmat hfr ⊢
            clear hW3 wr
            have HMAT := Lib.hid hmat
            have HFR := Lib.hid hfr
            have HMS := Lib.hid hms
            have HA1 := Lib.hid ha1
            have HAL1 := Lib.hid hal1
            have HNK := Lib.hid hnk
            have HKI := Lib.hid hki
            clear hki hnk hal1 ha1 hms hfr hmat
            go_wp2_with fail
            go_loopw [9] (fun s9 wr => ∃ x : Nat, s9 = .int .i64 x ∧ x ≤ i ∧ MatAt wr i B (closeI k a1 x) ∧ Frm B [] w wr) (fun s9 _ => i - (intOf s9).toNat)
            case atStart => exact ⟨0, rfl, Nat.zero_le _, HMAT.out, HFR.out⟩
            case round =>
              clear HMAT HFR
              obtain ⟨x, rfl, hx, hmat, hfr⟩ := hrel
              by_cases hxi : x < i
              rotate_left
              · have hxi' : ¬ (x : Int) < (i : Int) := by omega
                obtain rfl : x = i := by omega
                rw [← HNK.out] at hmat
                have HMAT := Lib.hid hmat
                have HFR := Lib.hid hfr
                clear hfr hmat
                have hki := HKI.out
                go_wp2_with fail
                (try simp only [w4, w5])
                exact ⟨⟨k + 1, by simp, HKI.out, HMAT.out, HFR.out⟩, HMS.out⟩
              have hxi' : (x : Int) < (i : Int) := by omega
              obtain ⟨x4, x5⟩ := wrapUp hxi hlen
              have hms2 := meas_up hxi
              obtain ⟨a2, ha2⟩ : ∃ y, y = closeI k a1 x := ⟨_, rfl⟩
              have hal2 : ∀ j, j < i → a2 j < 2 ^ i := by rw [ha2]; exact closeI_lt HKI.out HAL1.out x hx
              rw [← ha2] at hmat
              have hnx : closeI k a1 (x + 1) = partF k x a2 i := by
                rw [part_end k x i a2 (hal2 k HKI.out), ha2]; rfl
              rw [← part_zero k x a2] at hmat
              obtain ⟨W4, hW4⟩ : ∃ V, V = wr := ⟨_, rfl⟩
              rw [← hW4] at hmat hfr ⊢
              clear hW4 wr
              have HMAT := Lib.hid hmat
              have HFR := Lib.hid hfr
              have HMS2 := Lib.hid hms2
              have HA2 := Lib.hid ha2
              have HAL2 := Lib.hid hal2
              have HNX := Lib.hid hnx
              have HXI := Lib.hid hxi
              clear hxi hnx hal2 ha2 hms2 hfr hmat
              go_wp2_with fail
              go_loopw [10] (fun s10 wr => ∃ y : Nat, s10 = .int .i64 y ∧ y ≤ i ∧ MatAt wr i B (partF k x a2 y) ∧ Frm B [] w wr) (fun s10 _ => i - (intOf s10).toNat)
              case atStart => exact ⟨0, rfl, Nat.zero_le _, HMAT.out, HFR.out⟩
              case round =>
                clear HMAT HFR
                obtain ⟨y, rfl, hy, hmat, hfr⟩ := hrel
                by_cases hyi : y < i
                rotate_left
                · have hyi' : ¬ (y : Int) < (i : Int) := by omega
                  obtain rfl : y = i := by omega
                  rw [← HNX.out] at hmat
                  have HMAT := Lib.hid hmat
                  have HFR := Lib.hid hfr
                  clear hfr hmat
                  have hxi := HXI.out
                  go_wp2_with fail
                  (try simp only [x4, x5])
                  exact ⟨⟨x + 1, by simp, HXI.out, HMAT.out, HFR.out⟩, HMS2.out⟩
                have hyi' : (y : Int) < (i : Int) := by omega
                obtain ⟨y4, y5⟩ := wrapUp hyi hlen
                have hms3 := meas_up hyi
                have hxi := HXI.out
                have hki := HKI.out
                obtain ⟨rx, hrx⟩ : ∃ r, r = B + 1 + x := ⟨_, rfl⟩
                obtain ⟨rk, hrk⟩ : ∃ r, r = B + 1 + k := ⟨_, rfl⟩
                have c1 : wr.cell? ⟨B, x, none⟩ = some (.slice (some ⟨rx, 0, none⟩) i i) := by rw [hrx]; exact hmat.row hxi
                have c2 : wr.cell? ⟨B, k, none⟩ = some (.slice (some ⟨rk, 0, none⟩) i i) := by rw [hrk]; exact hmat.row hki
                have c3 : wr.cell? ⟨rx, k, none⟩ = some (.bool ((a2 x).testBit k)) := by rw [hrx, ← part_k k x a2 y]; exact hmat.bit hxi hki
                have c4 : wr.cell? ⟨rk, y, none⟩ = some (.bool (((partF k x a2 y) k).testBit y)) := by rw [hrk]; exact hmat.bit hki hyi
                have c5 : wr.cell? ⟨rx, y, none⟩ = some (.bool (((partF k x a2 y) x).testBit y)) := by rw [hrx]; exact hmat.bit hxi hyi
                have c6 : wr.frozen? ⟨rx, y, none⟩ = false := by rw [hrx]; exact (hmat.each x hxi).free y
                cases hbk : (a2 x).testBit k
                · have hsk := part_skip k x a2 y (fun e => by rw [hbk] at e; cases e.1)
                  rw [hbk] at c3
                  rw [← hsk] at hmat
                  clear c2 c4 c5 c6 hsk hrx hrk
                  have HMAT := Lib.hid hmat
                  have HFR := Lib.hid hfr
                  have HBK := Lib.hid hbk
                  have HMS3 := Lib.hid hms3
                  clear hms3 hbk hfr hmat
                  go_wp2_with fail
                  (try simp only [y4, y5])
                  exact ⟨⟨y + 1, by simp, hyi, HMAT.out, HFR.out⟩, HMS3.out⟩
                · rw [part_j k x a2 y hbk] at c4
                  rw [hbk] at c3
                  cases hbj : (a2 k).testBit y
                  · have hsk := part_skip k x a2 y (fun e => by rw [hbj] at e; cases e.2)
                    rw [hbj] at c4
                    rw [← hsk] at hmat
                    clear c5 c6 hsk hrx hrk
                    have HMAT := Lib.hid hmat
                    have HFR := Lib.hid hfr
                    have HBK := Lib.hid hbk
                    have HBJ := Lib.hid hbj
                    have HMS3 := Lib.hid hms3
                    clear hms3 hbj hbk hfr hmat
                    go_wp2_with fail
                    (try simp only [y4, y5])
                    exact ⟨⟨y + 1, by simp, hyi, HMAT.out, HFR.out⟩, HMS3.out⟩
                  · rw [hbj] at c4
                    obtain ⟨v5, hv5⟩ : ∃ v, v = ((partF k x a2 y) x).testBit y := ⟨_, rfl⟩
                    rw [← hv5] at c5
                    have hm2 : MatAt (wr.setCell ⟨rx, y, none⟩ (.bool true)) i B (partF k x a2 (y + 1)) := by
                      rw [← part_set k x a2 y hbk hbj, hrx]
                      exact hmat.put hxi
                    have hf2 : Frm B [] w (wr.setCell ⟨rx, y, none⟩ (.bool true)) := hfr.setCell (p := ⟨rx, y, none⟩) (.inr (by dsimp only; omega)) _
                    clear hv5 hrx hrk hmat hfr
                    have HMAT := Lib.hid hm2
                    have HFR := Lib.hid hf2
                    have HBK := Lib.hid hbk
                    have HBJ := Lib.hid hbj
                    have HMS3 := Lib.hid hms3
                    clear hms3 hbj hbk hf2 hm2
                    go_wp2_with fail
                    (try simp only [y4, y5])
                    exact ⟨⟨y + 1, by simp, hyi, HMAT.out, HFR.out⟩, HMS3.out⟩
end Go.Proofs.YtfmigicmfolbjaaDoor
