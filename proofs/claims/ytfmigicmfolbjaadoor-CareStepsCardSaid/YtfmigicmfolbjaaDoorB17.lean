/-
  Texts F2 of this claim, one behind the other.
-/
import Derived.Test.YtfmigicmfolbjaaDoorB16
namespace Go.Proofs.YtfmigicmfolbjaaDoor
set_option linter.all false
set_option linter.unusedSimpArgs false
set_option linter.unusedVariables false
open Go.RowKit

/-- Is a tide valid? -/
def tpB (T : Nat → Int × Int) (i : Nat) : Bool := inB (T i).1 0 10000000 && inB (T i).2 (-100000) 100000 && !(decide (0 < i) && decide ((T i).1 ≤ (T (i - 1)).1))
def tideB (n : Nat) (T : Nat → Int × Int) : Bool := (List.range n).all (tpB T) && inB n 1 100
structure TideOK (n : Nat) (T : Nat → Int × Int) : Prop where
  one : 1 ≤ n ∧ n ≤ 100
  ok : ∀ i, i < n → TpOK (T i)
  up : ∀ i, 0 < i → i < n → (T (i - 1)).1 < (T i).1
theorem tide_ok {n : Nat} {T : Nat → Int × Int} (h : tideB n T = true) : TideOK n T := by
  unfold tideB at h
  simp only [Bool.and_eq_true, List.all_eq_true, List.mem_range, inB_iff] at h
  refine ⟨by omega, fun i hi => ?_, fun i h0 hi => ?_⟩
  · have := h.1 i hi
    unfold tpB at this
    simp only [Bool.and_eq_true, inB_iff] at this
    exact ⟨this.1.1, this.1.2⟩
  · have := h.1 i hi
    unfold tpB at this
    simp only [Bool.and_eq_true, inB_iff, Bool.not_eq_true', Bool.and_eq_false_iff, decide_eq_false_iff_not] at this
    omega
theorem TideOK.mono {n : Nat} {T : Nat → Int × Int} (h : TideOK n T) : ∀ (d j : Nat), j + d < n → (T j).1 + d ≤ (T (j + d)).1
  | 0, j, _ => by simp
  | d + 1, j, hd => by
    have h1 := h.mono d j (by omega)
    have h2 := h.up (j + (d + 1)) (by omega) hd
    rw [show j + (d + 1) - 1 = j + d by omega] at h2
    omega
theorem TideOK.lt {n : Nat} {T : Nat → Int × Int} (h : TideOK n T) {i j : Nat} (hij : i < j) (hj : j < n) : (T i).1 < (T j).1 := by
  have := h.mono (j - i) i (by omega)
  rw [show i + (j - i) = j by omega] at this
  omega
theorem TideOK.le {n : Nat} {T : Nat → Int × Int} (h : TideOK n T) {i j : Nat} (hij : i ≤ j) (hj : j < n) : (T i).1 ≤ (T j).1 := by
  have := h.mono (j - i) i (by omega)
  rw [show i + (j - i) = j by omega] at this
  omega
/-- At a point of a tide. -/
def knotB (g : Gr) (p : Int × Int) : Bool := decide ((g.draught - g.depth - p.2) * g.tpc * g.fric ≤ 10000 * g.pull)
theorem scale_le {x y m : Int} (hm : 1 ≤ m) : x * m ≤ y * m ↔ x ≤ y := ⟨fun h => Int.le_of_mul_le_mul_right h (by omega), fun h => Int.mul_le_mul_of_nonneg_right h (by omega)⟩
theorem off_first (g : Gr) (a b : Int × Int) : offT g a b a.1 = knotB g a := by
  unfold offT offP knotB
  apply decide_eq_decide.2
  have hm : 1 ≤ max 1 (b.1 - a.1) := by omega
  generalize max 1 (b.1 - a.1) = m at hm
  rw [Int.sub_self, Int.mul_zero, Int.sub_zero, show (g.draught - g.depth - a.2) * m * g.tpc * g.fric = (g.draught - g.depth - a.2) * g.tpc * g.fric * m by grind]
  exact scale_le hm
theorem off_last (g : Gr) (a b : Int × Int) (h : a.1 < b.1) : offT g a b b.1 = knotB g b := by
  unfold offT offP knotB
  apply decide_eq_decide.2
  have hm : max 1 (b.1 - a.1) = b.1 - a.1 := by omega
  rw [hm]
  have h1 : 1 ≤ b.1 - a.1 := by omega
  generalize b.1 - a.1 = m at h1
  rw [show (g.draught - g.depth - a.2) * m - (b.2 - a.2) * m = (g.draught - g.depth - b.2) * m by grind, show (g.draught - g.depth - b.2) * m * g.tpc * g.fric = (g.draught - g.depth - b.2) * g.tpc * g.fric * m by grind]
  exact scale_le h1
/-- Is a ship off at a time? -/
def offAt (g : Gr) (n : Nat) (T : Nat → Int × Int) (t : Int) : Bool := match (List.range n).find? fun i => decide (t ≤ (T i).1) with
  | some i => offT g (T (i - 1)) (T i) t
  | none => false
theorem offAt_first {g : Gr} {n : Nat} {T : Nat → Int × Int} {t : Int} {i : Nat} (hi : i < n) (h1 : t ≤ (T i).1) (h2 : ∀ j, j < i → (T j).1 < t) : offAt g n T t = offT g (T (i - 1)) (T i) t := by
  unfold offAt
  have : (List.range n).find? (fun i => decide (t ≤ (T i).1)) = some i := by
    rw [List.find?_range_eq_some]
    exact ⟨by simpa using h1, by simpa using hi, fun j hj => by have := h2 j hj; simp; omega⟩
  rw [this]
/-- In a piece of the tide. -/
theorem offAt_piece {g : Gr} {n : Nat} {T : Nat → Int × Int} (hT : TideOK n T) {i : Nat} (hi : i < n) {t : Int} (h1 : (T (i - 1)).1 ≤ t) (h2 : t ≤ (T i).1) : offAt g n T t = offT g (T (i - 1)) (T i) t := by
  rcases Nat.eq_zero_or_pos i with h0 | h0
  · subst h0
    exact offAt_first hi h2 (fun j hj => absurd hj (by omega))
  · by_cases he : (T (i - 1)).1 = t
    · rw [offAt_first (i := i - 1) (by omega) (by omega) (fun j hj => by have := hT.lt (i := j) (j := i - 1) hj (by omega); omega), ← he, off_first]
      rcases Nat.eq_zero_or_pos (i - 1) with h3 | h3
      · rw [h3]; exact off_first g _ _
      · exact off_last g _ _ (hT.up (i - 1) h3 (by omega))
    · exact offAt_first hi h2 (fun j hj => by have := hT.le (i := j) (j := i - 1) (by omega) (by omega); omega)
theorem within_fr (a b c : Int) (w : World) : Calls Tryd.prog 53 #[.int .i64 a, .int .i64 b, .int .i64 c] w fun e w' => e = .returned (.bool (inB a b c)) ∧ Frm w.heap.size [] w w' :=
  (within_any a b c w).mono (by rintro e w' ⟨rfl, rfl⟩; exact ⟨rfl, Frm.refl _ _ _⟩)
theorem refin_fr (a b c : Int) (w : World) : Calls Tryd.prog 57 #[.int .i64 a, .int .i64 b, .int .i64 c] w fun e w' => e = .returned (.bool (inB a b c)) ∧ Frm w.heap.size [] w w' :=
  (refin_any a b c w).mono (by rintro e w' ⟨rfl, rfl⟩; exact ⟨rfl, Frm.refl _ _ _⟩)
def grB (g : Gr) : Bool := inB g.draught 0 100000 && inB g.depth (-100000) 100000 && inB g.tpc 1 1000 && inB g.pull 0 1000000 && inB g.fric 0 1000
theorem gr_ok {g : Gr} (h : grB g = true) : GrOK g := by
  unfold grB at h
  simp only [Bool.and_eq_true, inB_iff] at h
  obtain ⟨⟨⟨⟨h1, h2⟩, h3⟩, h4⟩, h5⟩ := h
  exact ⟨h1, h2, h3, h4, h5⟩
set_option maxRecDepth 100000 in
set_option maxHeartbeats 4000000 in
theorem grounded_any (g : Gr) (w : World) : Calls Tryd.prog 62 #[.agg g.cells.toArray] w fun e w' => e = .returned (.bool (grB g)) ∧ Frm w.heap.size [] w w' := by
  have hf0 := Tryd.func62
  obtain ⟨b0, h0⟩ : ∃ b, b = inB g.draught 0 100000 := ⟨_, rfl⟩
  obtain ⟨b1, h1⟩ : ∃ b, b = inB g.depth (-100000) 100000 := ⟨_, rfl⟩
  obtain ⟨b2, h2⟩ : ∃ b, b = inB g.tpc 1 1000 := ⟨_, rfl⟩
  obtain ⟨b3, h3⟩ : ∃ b, b = inB g.pull 0 1000000 := ⟨_, rfl⟩
  obtain ⟨b4, h4⟩ : ∃ b, b = inB g.fric 0 1000 := ⟨_, rfl⟩
  have hd : grB g = (b0 && b1 && b2 && b3 && b4) := by rw [h0, h1, h2, h3, h4]; rfl
  rw [hd]
  clear hd
  have H0 := Lib.hid h0
  have H1 := Lib.hid h1
  have H2 := Lib.hid h2
  have H3 := Lib.hid h3
  have H4 := Lib.hid h4
  clear h4 h3 h2 h1 h0
  go_enter Tryd.func62, Tryd.ntmps62
  go_upto_region 1 with fail
  refine namedC ?_; intro W hW
  have hb : Blk W w.heap.size 52 g.cells := by rw [hW]; exact Blk.new w 52 g.cells
  have hf : Frm w.heap.size [] w W := by rw [hW]; repeat (first | with_reducible exact Frm.refl _ _ _ | with_reducible refine Frm.drewN ?_ | with_reducible refine Frm.drew ?_ | ((with_reducible refine Frm.setCell' ?_ ?_); · first | (left; simp; done) | (right; simp; done) | (right; simp; omega)) | ((with_reducible refine Frm.alloc' ?_ ?_); · first | exact Nat.le_refl _ | (simp; done) | (simp; omega)))
  clear hW hf0
  obtain ⟨c, hc⟩ : ∃ c, c = w.heap.size := ⟨_, rfl⟩
  rw [← hc] at hb ⊢
  have c0 : W.cell? ⟨c, 0, none⟩ = some (.int .i64 g.draught) := hb.cell 0
  have c1 : W.cell? ⟨c, 1, none⟩ = some (.int .i64 g.depth) := hb.cell 1
  have c2 : W.cell? ⟨c, 2, none⟩ = some (.int .i64 g.tpc) := hb.cell 2
  have c3 : W.cell? ⟨c, 3, none⟩ = some (.int .i64 g.pull) := hb.cell 3
  have c4 : W.cell? ⟨c, 4, none⟩ = some (.int .i64 g.fric) := hb.cell 4
  clear hb
  have HF := Lib.hid hf
  have HC := Lib.hid hc
  clear hc hf
  go_wp2_with fail
  refine (within_any _ _ _ _).mono ?_; rintro e w' ⟨rfl, rfl⟩; rw [← H0.out]
  cases b0
  · go_wp2_with fail
    go_ret
    exact ⟨rfl, HF.out⟩
  go_wp2_with fail
  refine (within_any _ _ _ _).mono ?_; rintro e w' ⟨rfl, rfl⟩; rw [← H1.out]
  cases b1
  · go_wp2_with fail
    go_ret
    exact ⟨rfl, HF.out⟩
  go_wp2_with fail
  refine (within_any _ _ _ _).mono ?_; rintro e w' ⟨rfl, rfl⟩; rw [← H2.out]
  cases b2
  · go_wp2_with fail
    go_ret
    exact ⟨rfl, HF.out⟩
  go_wp2_with fail
  refine (within_any _ _ _ _).mono ?_; rintro e w' ⟨rfl, rfl⟩; rw [← H3.out]
  cases b3
  · go_wp2_with fail
    go_ret
    exact ⟨rfl, HF.out⟩
  go_wp2_with fail
  refine (within_any _ _ _ _).mono ?_; rintro e w' ⟨rfl, rfl⟩; rw [← H4.out]
  go_wp2_with fail
  go_ret
  exact ⟨by simp, HF.out⟩
set_option maxRecDepth 100000 in
set_option maxHeartbeats 8000000 in
theorem tidal_any (ad : Option Addr) (b off n cap : Nat) (T : Nat → Int × Int) (w : World) (hr : Rw w 2 ad b off n fun i => tpC (T i)) :
    Calls Tryd.prog 61 #[.slice ad n cap] w fun e w' => e = .returned (.bool (tideB n T)) ∧ Frm w.heap.size [] w w' := by
  have hf0 := Tryd.func61
  obtain ⟨r, hr0⟩ : ∃ r, r = tideB n T := ⟨_, rfl⟩
  rw [← hr0]
  have HR := Lib.hid hr
  have HR0 := Lib.hid hr0
  clear hr0 hr
  go_enter Tryd.func61, Tryd.ntmps61
  go_wp2_with fail
  go_loopw [7] (fun s7 wr => ∃ j : Nat, s7 = .int .i64 j ∧ j ≤ n ∧ (∀ k, k < j → tpB T k = true) ∧ Frm w.heap.size [] w wr) (fun s7 _ => n - (intOf s7).toNat)
  case atStart => exact ⟨0, rfl, Nat.zero_le _, fun k hk => absurd hk (by omega), by repeat (first | with_reducible exact Frm.refl _ _ _ | with_reducible refine Frm.drewN ?_ | with_reducible refine Frm.drew ?_ | ((with_reducible refine Frm.setCell' ?_ ?_); · first | (left; simp; done) | (right; simp; done) | (right; simp; omega)) | ((with_reducible refine Frm.alloc' ?_ ?_); · first | exact Nat.le_refl _ | (simp; done) | (simp; omega)))⟩
  case round =>
    obtain ⟨j, rfl, hj, hall, hfr⟩ := hrel
    by_cases hjl : j < n
    · have hjl' : (j : Int) < (n : Int) := by omega
      have had := HR.out.ad (by omega)
      subst had
      obtain ⟨p, hp⟩ : ∃ p, p = T j := ⟨_, rfl⟩
      obtain ⟨pt, ph⟩ := p
      have hlo : (loadVar 61 ⟨b, off + j * 2, none⟩).run Tryd.prog wr = .ok (.agg (tpC (pt, ph)).toArray) wr := by rw [hp]; exact (HR.out.frm hfr (Nat.le_refl _)).load (P := Tryd.prog) Tryd.underlying61 rfl hjl info61
      obtain ⟨w4, w5⟩ := wrapUp hjl HR.out.len
      have HALL := Lib.hid hall
      have HFR := Lib.hid hfr
      have HJL := Lib.hid hjl
      have HP := Lib.hid hp
      have HLO := Lib.hid hlo
      clear hlo hp hjl hfr hall
      go_wp2_with (first | (with_reducible refine atLoad 61 rfl ?_; refine wpList_loadE rfl rfl rfl HLO.out ?_) | (with_reducible refine atStore 61 rfl ?_; refine stop_ ?_))
      refine go_on ?_
      refine wpList_storeNew (P := Tryd.prog) (cs := tpC (pt, ph)) rfl rfl rfl rfl rfl info61 (by simp [tpC, Value.oneCell']) ?_
      intro V1 hf1 b4 hz1
      have hfr := HFR.out.call hf1 HFR.out.size (by simp)
      obtain ⟨q, hq⟩ : ∃ q, q = wr.heap.size := ⟨_, rfl⟩
      rw [← hq] at b4 ⊢
      clear hf1 hz1 hq HLO HFR
      obtain ⟨qt, hqt⟩ : ∃ x, x = (T (j - 1)).1 := ⟨_, rfl⟩
      obtain ⟨jm, hjm⟩ : ∃ x, x = j - 1 := ⟨_, rfl⟩
      have hfx : ∀ X, Frm V1.heap.size [] V1 X → X.cell? ⟨q, 0, none⟩ = some (.int .i64 pt) ∧ X.cell? ⟨q, 1, none⟩ = some (.int .i64 ph) ∧ X.cell? ⟨b, off + jm * 2, none⟩ = some (.int .i64 qt) := fun X hX => by
        have hb := hX.blk b4 b4.lt (by simp)
        refine ⟨hb.cell 0, hb.cell 1, ?_⟩
        rw [hjm, hqt]
        have := (HR.out.frm (hfr.call hX hfr.size (by simp)) (Nat.le_refl _)).at_ (j - 1) (by have := HJL.out; omega) 0 _ rfl
        simpa using this
      obtain ⟨bad, hbad⟩ : ∃ x, x = !tpB T j := ⟨_, rfl⟩
      have hbd : bad = (!inB pt 0 10000000 || !inB ph (-100000) 100000 || (decide (0 < j) && decide (pt ≤ qt))) := by
        rw [hbad, hqt]
        have e1 : (T j).1 = pt := by rw [← HP.out]
        have e2 : (T j).2 = ph := by rw [← HP.out]
        unfold tpB
        rw [e1, e2]
        cases inB pt 0 10000000 <;> cases inB ph (-100000) 100000 <;> simp
      clear b4 hqt
      have hjm2 : 0 < j → IntKind.i64.wrap ((j : Int) - 1) = (jm : Int) ∧ jm < n := fun h => ⟨by rw [hjm, IntWalk.i64_in _ (by have := HR.out.len; have := HJL.out; unfold maxLen at *; omega)]; omega, by have := HJL.out; omega⟩
      clear hjm
      have HFX := Lib.hid hfx
      have HFR := Lib.hid hfr
      have HBAD := Lib.hid hbad
      have HBD := Lib.hid hbd
      have HJM := Lib.hid hjm2
      clear hjm2 hbd hbad hfr hfx
      go_upto_region 4 with fail
      dsimp only [Act.put]
      go_cut [36] from 12 to 36 (fun s36 w' => s36 = .bool bad ∧ Frm V1.heap.size [] V1 w')
      case first =>
        cases c1 : inB pt 0 10000000
        · refine wp_region_leftL (fun V => Frm V1.heap.size [] V1 V) 1000 (by kernel_rfl) ?_
          have hS : Frm V1.heap.size [] V1 V1.drew := (Frm.refl _ _ V1).drew
          have HS := Lib.hid hS
          clear hS
          first | ((first | refine LeftL.tkF (v := ?_) 0 rfl HS.out ?_ ?_ | refine LeftL.tkG (v := ?_) 0 rfl HS.out ?_ ?_); rotate_left; (· intro V hV; obtain ⟨q0, q1, q2⟩ := HFX.out V hV; clear hV; go_simp; rfl)) | refine LeftL.tkN 0 rfl HS.out ?_
          (intro K' hK'; go_simp; refine hK' _ ?_; clear hK' K')
          first | ((first | refine LeftL.tkF (v := ?_) 1 rfl HS.out ?_ ?_ | refine LeftL.tkG (v := ?_) 1 rfl HS.out ?_ ?_); rotate_left; (· intro V hV; obtain ⟨q0, q1, q2⟩ := HFX.out V hV; clear hV; go_simp; rfl)) | refine LeftL.tkN 1 rfl HS.out ?_
          (intro K' hK'; go_simp; refine hK' _ ?_; clear hK' K')
          refine LeftL.one 2 rfl (by kernel_rfl) ?_
          go_wp2_with fail
          refine (within_fr pt 0 10000000 _).mono ?_; rintro e w1 ⟨rfl, hf1⟩
          have hS1 := HS.out.call hf1 HS.out.size (by simp)
          clear hf1 HS
          have HS := Lib.hid hS1
          clear hS1
          rw [c1]
          go_wp2_with fail
          first | refine ⟨fun _ => HS.out, ?_⟩ | refine ⟨HS.out, ?_⟩
          first | ((first | refine LeftL.tkF (v := ?_) 3 rfl HS.out ?_ ?_ | refine LeftL.tkG (v := ?_) 3 rfl HS.out ?_ ?_); rotate_left; (· intro V hV; obtain ⟨q0, q1, q2⟩ := HFX.out V hV; clear hV; go_simp; rfl)) | refine LeftL.tkN 3 rfl HS.out ?_
          (intro K' hK'; go_simp; refine hK' _ ?_; clear hK' K')
          first | ((first | refine LeftL.tkF (v := ?_) 4 rfl HS.out ?_ ?_ | refine LeftL.tkG (v := ?_) 4 rfl HS.out ?_ ?_); rotate_left; (· intro V hV; obtain ⟨q0, q1, q2⟩ := HFX.out V hV; clear hV; go_simp; rfl)) | refine LeftL.tkN 4 rfl HS.out ?_
          (intro K' hK'; go_simp; refine hK' _ ?_; clear hK' K')
          first | ((first | refine LeftL.tkF (v := ?_) 5 rfl HS.out ?_ ?_ | refine LeftL.tkG (v := ?_) 5 rfl HS.out ?_ ?_); rotate_left; (· intro V hV; obtain ⟨q0, q1, q2⟩ := HFX.out V hV; clear hV; go_simp; rfl)) | refine LeftL.tkN 5 rfl HS.out ?_
          (intro K' hK'; go_simp; refine hK' _ ?_; clear hK' K')
          first | ((first | refine LeftL.tkF (v := ?_) 6 rfl HS.out ?_ ?_ | refine LeftL.tkG (v := ?_) 6 rfl HS.out ?_ ?_); rotate_left; (· intro V hV; obtain ⟨q0, q1, q2⟩ := HFX.out V hV; clear hV; go_simp; rfl)) | refine LeftL.tkN 6 rfl HS.out ?_
          (intro K' hK'; go_simp; refine hK' _ ?_; clear hK' K')
          first | ((first | refine LeftL.tkF (v := ?_) 7 rfl HS.out ?_ ?_ | refine LeftL.tkG (v := ?_) 7 rfl HS.out ?_ ?_); rotate_left; (· intro V hV; obtain ⟨q0, q1, q2⟩ := HFX.out V hV; clear hV; go_simp; rfl)) | refine LeftL.tkN 7 rfl HS.out ?_
          (intro K' hK'; go_simp; refine hK' _ ?_; clear hK' K')
          first | ((first | refine LeftL.tkF (v := ?_) 8 rfl HS.out ?_ ?_ | refine LeftL.tkG (v := ?_) 8 rfl HS.out ?_ ?_); rotate_left; (· intro V hV; obtain ⟨q0, q1, q2⟩ := HFX.out V hV; clear hV; go_simp; rfl)) | refine LeftL.tkN 8 rfl HS.out ?_
          (intro K' hK'; go_simp; refine hK' _ ?_; clear hK' K')
          first | ((first | refine LeftL.tkF (v := ?_) 9 rfl HS.out ?_ ?_ | refine LeftL.tkG (v := ?_) 9 rfl HS.out ?_ ?_); rotate_left; (· intro V hV; obtain ⟨q0, q1, q2⟩ := HFX.out V hV; clear hV; go_simp; rfl)) | refine LeftL.tkN 9 rfl HS.out ?_
          (intro K' hK'; go_simp; refine hK' _ ?_; clear hK' K')
          first | ((first | refine LeftL.tkF (v := ?_) 10 rfl HS.out ?_ ?_ | refine LeftL.tkG (v := ?_) 10 rfl HS.out ?_ ?_); rotate_left; (· intro V hV; obtain ⟨q0, q1, q2⟩ := HFX.out V hV; clear hV; go_simp; rfl)) | refine LeftL.tkN 10 rfl HS.out ?_
          (intro K' hK'; go_simp; refine hK' _ ?_; clear hK' K')
          first | ((first | refine LeftL.tkF (v := ?_) 11 rfl HS.out ?_ ?_ | refine LeftL.tkG (v := ?_) 11 rfl HS.out ?_ ?_); rotate_left; (· intro V hV; obtain ⟨q0, q1, q2⟩ := HFX.out V hV; clear hV; go_simp; rfl)) | refine LeftL.tkN 11 rfl HS.out ?_
          (intro K' hK'; go_simp; refine hK' _ ?_; clear hK' K')
          first | ((first | refine LeftL.tkF (v := ?_) 12 rfl HS.out ?_ ?_ | refine LeftL.tkG (v := ?_) 12 rfl HS.out ?_ ?_); rotate_left; (· intro V hV; obtain ⟨q0, q1, q2⟩ := HFX.out V hV; clear hV; go_simp; rfl)) | refine LeftL.tkN 12 rfl HS.out ?_
          (intro K' hK'; go_simp; refine hK' _ ?_; clear hK' K')
          first | ((first | refine LeftL.tkF (v := ?_) 13 rfl HS.out ?_ ?_ | refine LeftL.tkG (v := ?_) 13 rfl HS.out ?_ ?_); rotate_left; (· intro V hV; obtain ⟨q0, q1, q2⟩ := HFX.out V hV; clear hV; go_simp; rfl)) | refine LeftL.tkN 13 rfl HS.out ?_
          (intro K' hK'; go_simp; refine hK' _ ?_; clear hK' K')
          first | ((first | refine LeftL.tkF (v := ?_) 14 rfl HS.out ?_ ?_ | refine LeftL.tkG (v := ?_) 14 rfl HS.out ?_ ?_); rotate_left; (· intro V hV; obtain ⟨q0, q1, q2⟩ := HFX.out V hV; clear hV; go_simp; rfl)) | refine LeftL.tkN 14 rfl HS.out ?_
          (intro K' hK'; go_simp; refine hK' _ ?_; clear hK' K')
          first | ((first | refine LeftL.tkF (v := ?_) 15 rfl HS.out ?_ ?_ | refine LeftL.tkG (v := ?_) 15 rfl HS.out ?_ ?_); rotate_left; (· intro V hV; obtain ⟨q0, q1, q2⟩ := HFX.out V hV; clear hV; go_simp; rfl)) | refine LeftL.tkN 15 rfl HS.out ?_
          (intro K' hK'; go_simp; refine hK' _ ?_; clear hK' K')
          first | ((first | refine LeftL.tkF (v := ?_) 16 rfl HS.out ?_ ?_ | refine LeftL.tkG (v := ?_) 16 rfl HS.out ?_ ?_); rotate_left; (· intro V hV; obtain ⟨q0, q1, q2⟩ := HFX.out V hV; clear hV; go_simp; rfl)) | refine LeftL.tkN 16 rfl HS.out ?_
          (intro K' hK'; go_simp; refine hK' _ ?_; clear hK' K')
          first | ((first | refine LeftL.tkF (v := ?_) 17 rfl HS.out ?_ ?_ | refine LeftL.tkG (v := ?_) 17 rfl HS.out ?_ ?_); rotate_left; (· intro V hV; obtain ⟨q0, q1, q2⟩ := HFX.out V hV; clear hV; go_simp; rfl)) | refine LeftL.tkN 17 rfl HS.out ?_
          (intro K' hK'; go_simp; refine hK' _ ?_; clear hK' K')
          first | ((first | refine LeftL.tkF (v := ?_) 18 rfl HS.out ?_ ?_ | refine LeftL.tkG (v := ?_) 18 rfl HS.out ?_ ?_); rotate_left; (· intro V hV; obtain ⟨q0, q1, q2⟩ := HFX.out V hV; clear hV; go_simp; rfl)) | refine LeftL.tkN 18 rfl HS.out ?_
          (intro K' hK'; go_simp; refine hK' _ ?_; clear hK' K')
          first | ((first | refine LeftL.tkF (v := ?_) 19 rfl HS.out ?_ ?_ | refine LeftL.tkG (v := ?_) 19 rfl HS.out ?_ ?_); rotate_left; (· intro V hV; obtain ⟨q0, q1, q2⟩ := HFX.out V hV; clear hV; go_simp; rfl)) | refine LeftL.tkN 19 rfl HS.out ?_
          (intro K' hK'; go_simp; refine hK' _ ?_; clear hK' K')
          first | ((first | refine LeftL.tkF (v := ?_) 20 rfl HS.out ?_ ?_ | refine LeftL.tkG (v := ?_) 20 rfl HS.out ?_ ?_); rotate_left; (· intro V hV; obtain ⟨q0, q1, q2⟩ := HFX.out V hV; clear hV; go_simp; rfl)) | refine LeftL.tkN 20 rfl HS.out ?_
          (intro K' hK'; go_simp; refine hK' _ ?_; clear hK' K')
          first | ((first | refine LeftL.tkF (v := ?_) 21 rfl HS.out ?_ ?_ | refine LeftL.tkG (v := ?_) 21 rfl HS.out ?_ ?_); rotate_left; (· intro V hV; obtain ⟨q0, q1, q2⟩ := HFX.out V hV; clear hV; go_simp; rfl)) | refine LeftL.tkN 21 rfl HS.out ?_
          (intro K' hK'; go_simp; refine hK' _ ?_; clear hK' K')
          first | ((first | refine LeftL.tkF (v := ?_) 22 rfl HS.out ?_ ?_ | refine LeftL.tkG (v := ?_) 22 rfl HS.out ?_ ?_); rotate_left; (· intro V hV; obtain ⟨q0, q1, q2⟩ := HFX.out V hV; clear hV; go_simp; rfl)) | refine LeftL.tkN 22 rfl HS.out ?_
          (intro K' hK'; go_simp; refine hK' _ ?_; clear hK' K')
          first | ((first | refine LeftL.tkF (v := ?_) 23 rfl HS.out ?_ ?_ | refine LeftL.tkG (v := ?_) 23 rfl HS.out ?_ ?_); rotate_left; (· intro V hV; obtain ⟨q0, q1, q2⟩ := HFX.out V hV; clear hV; go_simp; rfl)) | refine LeftL.tkN 23 rfl HS.out ?_
          (intro K' hK'; go_simp; refine hK' _ ?_; clear hK' K')
          first | ((first | refine LeftL.tkF (v := ?_) 24 rfl HS.out ?_ ?_ | refine LeftL.tkG (v := ?_) 24 rfl HS.out ?_ ?_); rotate_left; (· intro V hV; obtain ⟨q0, q1, q2⟩ := HFX.out V hV; clear hV; go_simp; rfl)) | refine LeftL.tkN 24 rfl HS.out ?_
          (intro K' hK'; go_simp; refine hK' _ ?_; clear hK' K')
          refine LeftL.done (by kernel_rfl) ?_
          go_wp2_with fail
          go_meet
          case rel => exact ⟨by rw [HBD.out, c1]; rfl, HS.out⟩
        · cases c2 : inB ph (-100000) 100000
          · refine wp_region_leftL (fun V => Frm V1.heap.size [] V1 V) 1000 (by kernel_rfl) ?_
            have hS : Frm V1.heap.size [] V1 V1.drew := (Frm.refl _ _ V1).drew
            have HS := Lib.hid hS
            clear hS
            first | ((first | refine LeftL.tkF (v := ?_) 0 rfl HS.out ?_ ?_ | refine LeftL.tkG (v := ?_) 0 rfl HS.out ?_ ?_); rotate_left; (· intro V hV; obtain ⟨q0, q1, q2⟩ := HFX.out V hV; clear hV; go_simp; rfl)) | refine LeftL.tkN 0 rfl HS.out ?_
            (intro K' hK'; go_simp; refine hK' _ ?_; clear hK' K')
            first | ((first | refine LeftL.tkF (v := ?_) 1 rfl HS.out ?_ ?_ | refine LeftL.tkG (v := ?_) 1 rfl HS.out ?_ ?_); rotate_left; (· intro V hV; obtain ⟨q0, q1, q2⟩ := HFX.out V hV; clear hV; go_simp; rfl)) | refine LeftL.tkN 1 rfl HS.out ?_
            (intro K' hK'; go_simp; refine hK' _ ?_; clear hK' K')
            refine LeftL.one 2 rfl (by kernel_rfl) ?_
            go_wp2_with fail
            refine (within_fr pt 0 10000000 _).mono ?_; rintro e w1 ⟨rfl, hf1⟩
            have hS1 := HS.out.call hf1 HS.out.size (by simp)
            clear hf1 HS
            have HS := Lib.hid hS1
            clear hS1
            rw [c1]
            go_wp2_with fail
            first | refine ⟨fun _ => HS.out, ?_⟩ | refine ⟨HS.out, ?_⟩
            first | ((first | refine LeftL.tkF (v := ?_) 3 rfl HS.out ?_ ?_ | refine LeftL.tkG (v := ?_) 3 rfl HS.out ?_ ?_); rotate_left; (· intro V hV; obtain ⟨q0, q1, q2⟩ := HFX.out V hV; clear hV; go_simp; rfl)) | refine LeftL.tkN 3 rfl HS.out ?_
            (intro K' hK'; go_simp; refine hK' _ ?_; clear hK' K')
            first | ((first | refine LeftL.tkF (v := ?_) 4 rfl HS.out ?_ ?_ | refine LeftL.tkG (v := ?_) 4 rfl HS.out ?_ ?_); rotate_left; (· intro V hV; obtain ⟨q0, q1, q2⟩ := HFX.out V hV; clear hV; go_simp; rfl)) | refine LeftL.tkN 4 rfl HS.out ?_
            (intro K' hK'; go_simp; refine hK' _ ?_; clear hK' K')
            first | ((first | refine LeftL.tkF (v := ?_) 5 rfl HS.out ?_ ?_ | refine LeftL.tkG (v := ?_) 5 rfl HS.out ?_ ?_); rotate_left; (· intro V hV; obtain ⟨q0, q1, q2⟩ := HFX.out V hV; clear hV; go_simp; rfl)) | refine LeftL.tkN 5 rfl HS.out ?_
            (intro K' hK'; go_simp; refine hK' _ ?_; clear hK' K')
            first | ((first | refine LeftL.tkF (v := ?_) 6 rfl HS.out ?_ ?_ | refine LeftL.tkG (v := ?_) 6 rfl HS.out ?_ ?_); rotate_left; (· intro V hV; obtain ⟨q0, q1, q2⟩ := HFX.out V hV; clear hV; go_simp; rfl)) | refine LeftL.tkN 6 rfl HS.out ?_
            (intro K' hK'; go_simp; refine hK' _ ?_; clear hK' K')
            refine LeftL.one 7 rfl (by kernel_rfl) ?_
            go_wp2_with fail
            refine (within_fr ph (-100000) 100000 _).mono ?_; rintro e w1 ⟨rfl, hf1⟩
            have hS1 := HS.out.call hf1 HS.out.size (by simp)
            clear hf1 HS
            have HS := Lib.hid hS1
            clear hS1
            rw [c2]
            go_wp2_with fail
            first | refine ⟨fun _ => HS.out, ?_⟩ | refine ⟨HS.out, ?_⟩
            first | ((first | refine LeftL.tkF (v := ?_) 8 rfl HS.out ?_ ?_ | refine LeftL.tkG (v := ?_) 8 rfl HS.out ?_ ?_); rotate_left; (· intro V hV; obtain ⟨q0, q1, q2⟩ := HFX.out V hV; clear hV; go_simp; rfl)) | refine LeftL.tkN 8 rfl HS.out ?_
            (intro K' hK'; go_simp; refine hK' _ ?_; clear hK' K')
            first | ((first | refine LeftL.tkF (v := ?_) 9 rfl HS.out ?_ ?_ | refine LeftL.tkG (v := ?_) 9 rfl HS.out ?_ ?_); rotate_left; (· intro V hV; obtain ⟨q0, q1, q2⟩ := HFX.out V hV; clear hV; go_simp; rfl)) | refine LeftL.tkN 9 rfl HS.out ?_
            (intro K' hK'; go_simp; refine hK' _ ?_; clear hK' K')
            first | ((first | refine LeftL.tkF (v := ?_) 10 rfl HS.out ?_ ?_ | refine LeftL.tkG (v := ?_) 10 rfl HS.out ?_ ?_); rotate_left; (· intro V hV; obtain ⟨q0, q1, q2⟩ := HFX.out V hV; clear hV; go_simp; rfl)) | refine LeftL.tkN 10 rfl HS.out ?_
            (intro K' hK'; go_simp; refine hK' _ ?_; clear hK' K')
            first | ((first | refine LeftL.tkF (v := ?_) 11 rfl HS.out ?_ ?_ | refine LeftL.tkG (v := ?_) 11 rfl HS.out ?_ ?_); rotate_left; (· intro V hV; obtain ⟨q0, q1, q2⟩ := HFX.out V hV; clear hV; go_simp; rfl)) | refine LeftL.tkN 11 rfl HS.out ?_
            (intro K' hK'; go_simp; refine hK' _ ?_; clear hK' K')
            first | ((first | refine LeftL.tkF (v := ?_) 12 rfl HS.out ?_ ?_ | refine LeftL.tkG (v := ?_) 12 rfl HS.out ?_ ?_); rotate_left; (· intro V hV; obtain ⟨q0, q1, q2⟩ := HFX.out V hV; clear hV; go_simp; rfl)) | refine LeftL.tkN 12 rfl HS.out ?_
            (intro K' hK'; go_simp; refine hK' _ ?_; clear hK' K')
            first | ((first | refine LeftL.tkF (v := ?_) 13 rfl HS.out ?_ ?_ | refine LeftL.tkG (v := ?_) 13 rfl HS.out ?_ ?_); rotate_left; (· intro V hV; obtain ⟨q0, q1, q2⟩ := HFX.out V hV; clear hV; go_simp; rfl)) | refine LeftL.tkN 13 rfl HS.out ?_
            (intro K' hK'; go_simp; refine hK' _ ?_; clear hK' K')
            first | ((first | refine LeftL.tkF (v := ?_) 14 rfl HS.out ?_ ?_ | refine LeftL.tkG (v := ?_) 14 rfl HS.out ?_ ?_); rotate_left; (· intro V hV; obtain ⟨q0, q1, q2⟩ := HFX.out V hV; clear hV; go_simp; rfl)) | refine LeftL.tkN 14 rfl HS.out ?_
            (intro K' hK'; go_simp; refine hK' _ ?_; clear hK' K')
            first | ((first | refine LeftL.tkF (v := ?_) 15 rfl HS.out ?_ ?_ | refine LeftL.tkG (v := ?_) 15 rfl HS.out ?_ ?_); rotate_left; (· intro V hV; obtain ⟨q0, q1, q2⟩ := HFX.out V hV; clear hV; go_simp; rfl)) | refine LeftL.tkN 15 rfl HS.out ?_
            (intro K' hK'; go_simp; refine hK' _ ?_; clear hK' K')
            first | ((first | refine LeftL.tkF (v := ?_) 16 rfl HS.out ?_ ?_ | refine LeftL.tkG (v := ?_) 16 rfl HS.out ?_ ?_); rotate_left; (· intro V hV; obtain ⟨q0, q1, q2⟩ := HFX.out V hV; clear hV; go_simp; rfl)) | refine LeftL.tkN 16 rfl HS.out ?_
            (intro K' hK'; go_simp; refine hK' _ ?_; clear hK' K')
            first | ((first | refine LeftL.tkF (v := ?_) 17 rfl HS.out ?_ ?_ | refine LeftL.tkG (v := ?_) 17 rfl HS.out ?_ ?_); rotate_left; (· intro V hV; obtain ⟨q0, q1, q2⟩ := HFX.out V hV; clear hV; go_simp; rfl)) | refine LeftL.tkN 17 rfl HS.out ?_
            (intro K' hK'; go_simp; refine hK' _ ?_; clear hK' K')
            first | ((first | refine LeftL.tkF (v := ?_) 18 rfl HS.out ?_ ?_ | refine LeftL.tkG (v := ?_) 18 rfl HS.out ?_ ?_); rotate_left; (· intro V hV; obtain ⟨q0, q1, q2⟩ := HFX.out V hV; clear hV; go_simp; rfl)) | refine LeftL.tkN 18 rfl HS.out ?_
            (intro K' hK'; go_simp; refine hK' _ ?_; clear hK' K')
            first | ((first | refine LeftL.tkF (v := ?_) 19 rfl HS.out ?_ ?_ | refine LeftL.tkG (v := ?_) 19 rfl HS.out ?_ ?_); rotate_left; (· intro V hV; obtain ⟨q0, q1, q2⟩ := HFX.out V hV; clear hV; go_simp; rfl)) | refine LeftL.tkN 19 rfl HS.out ?_
            (intro K' hK'; go_simp; refine hK' _ ?_; clear hK' K')
            first | ((first | refine LeftL.tkF (v := ?_) 20 rfl HS.out ?_ ?_ | refine LeftL.tkG (v := ?_) 20 rfl HS.out ?_ ?_); rotate_left; (· intro V hV; obtain ⟨q0, q1, q2⟩ := HFX.out V hV; clear hV; go_simp; rfl)) | refine LeftL.tkN 20 rfl HS.out ?_
            (intro K' hK'; go_simp; refine hK' _ ?_; clear hK' K')
            first | ((first | refine LeftL.tkF (v := ?_) 21 rfl HS.out ?_ ?_ | refine LeftL.tkG (v := ?_) 21 rfl HS.out ?_ ?_); rotate_left; (· intro V hV; obtain ⟨q0, q1, q2⟩ := HFX.out V hV; clear hV; go_simp; rfl)) | refine LeftL.tkN 21 rfl HS.out ?_
            (intro K' hK'; go_simp; refine hK' _ ?_; clear hK' K')
            first | ((first | refine LeftL.tkF (v := ?_) 22 rfl HS.out ?_ ?_ | refine LeftL.tkG (v := ?_) 22 rfl HS.out ?_ ?_); rotate_left; (· intro V hV; obtain ⟨q0, q1, q2⟩ := HFX.out V hV; clear hV; go_simp; rfl)) | refine LeftL.tkN 22 rfl HS.out ?_
            (intro K' hK'; go_simp; refine hK' _ ?_; clear hK' K')
            first | ((first | refine LeftL.tkF (v := ?_) 23 rfl HS.out ?_ ?_ | refine LeftL.tkG (v := ?_) 23 rfl HS.out ?_ ?_); rotate_left; (· intro V hV; obtain ⟨q0, q1, q2⟩ := HFX.out V hV; clear hV; go_simp; rfl)) | refine LeftL.tkN 23 rfl HS.out ?_
            (intro K' hK'; go_simp; refine hK' _ ?_; clear hK' K')
            first | ((first | refine LeftL.tkF (v := ?_) 24 rfl HS.out ?_ ?_ | refine LeftL.tkG (v := ?_) 24 rfl HS.out ?_ ?_); rotate_left; (· intro V hV; obtain ⟨q0, q1, q2⟩ := HFX.out V hV; clear hV; go_simp; rfl)) | refine LeftL.tkN 24 rfl HS.out ?_
            (intro K' hK'; go_simp; refine hK' _ ?_; clear hK' K')
            refine LeftL.done (by kernel_rfl) ?_
            go_wp2_with fail
            go_meet
            case rel => exact ⟨by rw [HBD.out, c1, c2]; rfl, HS.out⟩
          · by_cases hj0 : 0 < j
            · obtain ⟨v1, v2⟩ := HJM.out hj0
              have v3 : (0 : Int) < (j : Int) := by omega
              have v4 : (jm : Int) < (n : Int) := by omega
              have e0 : decide (0 < j) = true := by simp [hj0]
              have E0 := Lib.hid e0
              clear e0
              refine wp_region_leftL (fun V => Frm V1.heap.size [] V1 V) 1000 (by kernel_rfl) ?_
              have hS : Frm V1.heap.size [] V1 V1.drew := (Frm.refl _ _ V1).drew
              have HS := Lib.hid hS
              clear hS
              first | ((first | refine LeftL.tkF (v := ?_) 0 rfl HS.out ?_ ?_ | refine LeftL.tkG (v := ?_) 0 rfl HS.out ?_ ?_); rotate_left; (· intro V hV; obtain ⟨q0, q1, q2⟩ := HFX.out V hV; clear hV; go_simp; rfl)) | refine LeftL.tkN 0 rfl HS.out ?_
              (intro K' hK'; go_simp; refine hK' _ ?_; clear hK' K')
              first | ((first | refine LeftL.tkF (v := ?_) 1 rfl HS.out ?_ ?_ | refine LeftL.tkG (v := ?_) 1 rfl HS.out ?_ ?_); rotate_left; (· intro V hV; obtain ⟨q0, q1, q2⟩ := HFX.out V hV; clear hV; go_simp; rfl)) | refine LeftL.tkN 1 rfl HS.out ?_
              (intro K' hK'; go_simp; refine hK' _ ?_; clear hK' K')
              refine LeftL.one 2 rfl (by kernel_rfl) ?_
              go_wp2_with fail
              refine (within_fr pt 0 10000000 _).mono ?_; rintro e w1 ⟨rfl, hf1⟩
              have hS1 := HS.out.call hf1 HS.out.size (by simp)
              clear hf1 HS
              have HS := Lib.hid hS1
              clear hS1
              rw [c1]
              go_wp2_with fail
              first | refine ⟨fun _ => HS.out, ?_⟩ | refine ⟨HS.out, ?_⟩
              first | ((first | refine LeftL.tkF (v := ?_) 3 rfl HS.out ?_ ?_ | refine LeftL.tkG (v := ?_) 3 rfl HS.out ?_ ?_); rotate_left; (· intro V hV; obtain ⟨q0, q1, q2⟩ := HFX.out V hV; clear hV; go_simp; rfl)) | refine LeftL.tkN 3 rfl HS.out ?_
              (intro K' hK'; go_simp; refine hK' _ ?_; clear hK' K')
              first | ((first | refine LeftL.tkF (v := ?_) 4 rfl HS.out ?_ ?_ | refine LeftL.tkG (v := ?_) 4 rfl HS.out ?_ ?_); rotate_left; (· intro V hV; obtain ⟨q0, q1, q2⟩ := HFX.out V hV; clear hV; go_simp; rfl)) | refine LeftL.tkN 4 rfl HS.out ?_
              (intro K' hK'; go_simp; refine hK' _ ?_; clear hK' K')
              first | ((first | refine LeftL.tkF (v := ?_) 5 rfl HS.out ?_ ?_ | refine LeftL.tkG (v := ?_) 5 rfl HS.out ?_ ?_); rotate_left; (· intro V hV; obtain ⟨q0, q1, q2⟩ := HFX.out V hV; clear hV; go_simp; rfl)) | refine LeftL.tkN 5 rfl HS.out ?_
              (intro K' hK'; go_simp; refine hK' _ ?_; clear hK' K')
              first | ((first | refine LeftL.tkF (v := ?_) 6 rfl HS.out ?_ ?_ | refine LeftL.tkG (v := ?_) 6 rfl HS.out ?_ ?_); rotate_left; (· intro V hV; obtain ⟨q0, q1, q2⟩ := HFX.out V hV; clear hV; go_simp; rfl)) | refine LeftL.tkN 6 rfl HS.out ?_
              (intro K' hK'; go_simp; refine hK' _ ?_; clear hK' K')
              refine LeftL.one 7 rfl (by kernel_rfl) ?_
              go_wp2_with fail
              refine (within_fr ph (-100000) 100000 _).mono ?_; rintro e w1 ⟨rfl, hf1⟩
              have hS1 := HS.out.call hf1 HS.out.size (by simp)
              clear hf1 HS
              have HS := Lib.hid hS1
              clear hS1
              rw [c2]
              go_wp2_with fail
              first | refine ⟨fun _ => HS.out, ?_⟩ | refine ⟨HS.out, ?_⟩
              first | ((first | refine LeftL.tkF (v := ?_) 8 rfl HS.out ?_ ?_ | refine LeftL.tkG (v := ?_) 8 rfl HS.out ?_ ?_); rotate_left; (· intro V hV; obtain ⟨q0, q1, q2⟩ := HFX.out V hV; clear hV; go_simp; rfl)) | refine LeftL.tkN 8 rfl HS.out ?_
              (intro K' hK'; go_simp; refine hK' _ ?_; clear hK' K')
              first | ((first | refine LeftL.tkF (v := ?_) 9 rfl HS.out ?_ ?_ | refine LeftL.tkG (v := ?_) 9 rfl HS.out ?_ ?_); rotate_left; (· intro V hV; obtain ⟨q0, q1, q2⟩ := HFX.out V hV; clear hV; go_simp; rfl)) | refine LeftL.tkN 9 rfl HS.out ?_
              (intro K' hK'; go_simp; refine hK' _ ?_; clear hK' K')
              first | ((first | refine LeftL.tkF (v := ?_) 10 rfl HS.out ?_ ?_ | refine LeftL.tkG (v := ?_) 10 rfl HS.out ?_ ?_); rotate_left; (· intro V hV; obtain ⟨q0, q1, q2⟩ := HFX.out V hV; clear hV; go_simp; rfl)) | refine LeftL.tkN 10 rfl HS.out ?_
              (intro K' hK'; go_simp; refine hK' _ ?_; clear hK' K')
              first | ((first | refine LeftL.tkF (v := ?_) 11 rfl HS.out ?_ ?_ | refine LeftL.tkG (v := ?_) 11 rfl HS.out ?_ ?_); rotate_left; (· intro V hV; obtain ⟨q0, q1, q2⟩ := HFX.out V hV; clear hV; go_simp; rfl)) | refine LeftL.tkN 11 rfl HS.out ?_
              (intro K' hK'; go_simp; refine hK' _ ?_; clear hK' K')
              first | ((first | refine LeftL.tkF (v := ?_) 12 rfl HS.out ?_ ?_ | refine LeftL.tkG (v := ?_) 12 rfl HS.out ?_ ?_); rotate_left; (· intro V hV; obtain ⟨q0, q1, q2⟩ := HFX.out V hV; clear hV; go_simp; rfl)) | refine LeftL.tkN 12 rfl HS.out ?_
              (intro K' hK'; go_simp; refine hK' _ ?_; clear hK' K')
              first | ((first | refine LeftL.tkF (v := ?_) 13 rfl HS.out ?_ ?_ | refine LeftL.tkG (v := ?_) 13 rfl HS.out ?_ ?_); rotate_left; (· intro V hV; obtain ⟨q0, q1, q2⟩ := HFX.out V hV; clear hV; go_simp; rfl)) | refine LeftL.tkN 13 rfl HS.out ?_
              (intro K' hK'; go_simp; refine hK' _ ?_; clear hK' K')
              first | ((first | refine LeftL.tkF (v := ?_) 14 rfl HS.out ?_ ?_ | refine LeftL.tkG (v := ?_) 14 rfl HS.out ?_ ?_); rotate_left; (· intro V hV; obtain ⟨q0, q1, q2⟩ := HFX.out V hV; clear hV; go_simp; rfl)) | refine LeftL.tkN 14 rfl HS.out ?_
              (intro K' hK'; go_simp; refine hK' _ ?_; clear hK' K')
              first | ((first | refine LeftL.tkF (v := ?_) 15 rfl HS.out ?_ ?_ | refine LeftL.tkG (v := ?_) 15 rfl HS.out ?_ ?_); rotate_left; (· intro V hV; obtain ⟨q0, q1, q2⟩ := HFX.out V hV; clear hV; go_simp; rfl)) | refine LeftL.tkN 15 rfl HS.out ?_
              (intro K' hK'; go_simp; refine hK' _ ?_; clear hK' K')
              first | ((first | refine LeftL.tkF (v := ?_) 16 rfl HS.out ?_ ?_ | refine LeftL.tkG (v := ?_) 16 rfl HS.out ?_ ?_); rotate_left; (· intro V hV; obtain ⟨q0, q1, q2⟩ := HFX.out V hV; clear hV; go_simp; rfl)) | refine LeftL.tkN 16 rfl HS.out ?_
              (intro K' hK'; go_simp; refine hK' _ ?_; clear hK' K')
              first | ((first | refine LeftL.tkF (v := ?_) 17 rfl HS.out ?_ ?_ | refine LeftL.tkG (v := ?_) 17 rfl HS.out ?_ ?_); rotate_left; (· intro V hV; obtain ⟨q0, q1, q2⟩ := HFX.out V hV; clear hV; go_simp; rfl)) | refine LeftL.tkN 17 rfl HS.out ?_
              (intro K' hK'; go_simp; refine hK' _ ?_; clear hK' K')
              first | ((first | refine LeftL.tkF (v := ?_) 18 rfl HS.out ?_ ?_ | refine LeftL.tkG (v := ?_) 18 rfl HS.out ?_ ?_); rotate_left; (· intro V hV; obtain ⟨q0, q1, q2⟩ := HFX.out V hV; clear hV; go_simp; rfl)) | refine LeftL.tkN 18 rfl HS.out ?_
              (intro K' hK'; go_simp; refine hK' _ ?_; clear hK' K')
              first | ((first | refine LeftL.tkF (v := ?_) 19 rfl HS.out ?_ ?_ | refine LeftL.tkG (v := ?_) 19 rfl HS.out ?_ ?_); rotate_left; (· intro V hV; obtain ⟨q0, q1, q2⟩ := HFX.out V hV; clear hV; go_simp; rfl)) | refine LeftL.tkN 19 rfl HS.out ?_
              (intro K' hK'; go_simp; refine hK' _ ?_; clear hK' K')
              first | ((first | refine LeftL.tkF (v := ?_) 20 rfl HS.out ?_ ?_ | refine LeftL.tkG (v := ?_) 20 rfl HS.out ?_ ?_); rotate_left; (· intro V hV; obtain ⟨q0, q1, q2⟩ := HFX.out V hV; clear hV; go_simp; rfl)) | refine LeftL.tkN 20 rfl HS.out ?_
              (intro K' hK'; go_simp; refine hK' _ ?_; clear hK' K')
              first | ((first | refine LeftL.tkF (v := ?_) 21 rfl HS.out ?_ ?_ | refine LeftL.tkG (v := ?_) 21 rfl HS.out ?_ ?_); rotate_left; (· intro V hV; obtain ⟨q0, q1, q2⟩ := HFX.out V hV; clear hV; go_simp; rfl)) | refine LeftL.tkN 21 rfl HS.out ?_
              (intro K' hK'; go_simp; refine hK' _ ?_; clear hK' K')
              first | ((first | refine LeftL.tkF (v := ?_) 22 rfl HS.out ?_ ?_ | refine LeftL.tkG (v := ?_) 22 rfl HS.out ?_ ?_); rotate_left; (· intro V hV; obtain ⟨q0, q1, q2⟩ := HFX.out V hV; clear hV; go_simp; rfl)) | refine LeftL.tkN 22 rfl HS.out ?_
              (intro K' hK'; go_simp; refine hK' _ ?_; clear hK' K')
              first | ((first | refine LeftL.tkF (v := ?_) 23 rfl HS.out ?_ ?_ | refine LeftL.tkG (v := ?_) 23 rfl HS.out ?_ ?_); rotate_left; (· intro V hV; obtain ⟨q0, q1, q2⟩ := HFX.out V hV; clear hV; go_simp; rfl)) | refine LeftL.tkN 23 rfl HS.out ?_
              (intro K' hK'; go_simp; refine hK' _ ?_; clear hK' K')
              first | ((first | refine LeftL.tkF (v := ?_) 24 rfl HS.out ?_ ?_ | refine LeftL.tkG (v := ?_) 24 rfl HS.out ?_ ?_); rotate_left; (· intro V hV; obtain ⟨q0, q1, q2⟩ := HFX.out V hV; clear hV; go_simp; rfl)) | refine LeftL.tkN 24 rfl HS.out ?_
              (intro K' hK'; go_simp; refine hK' _ ?_; clear hK' K')
              refine LeftL.done (by kernel_rfl) ?_
              go_wp2_with fail
              go_meet
              case rel => exact ⟨by rw [HBD.out, c1, c2, E0.out]; rfl, HS.out⟩
            · have v3 : ¬ (0 : Int) < (j : Int) := by omega
              have e0 : decide (0 < j) = false := by simp; omega
              have E0 := Lib.hid e0
              clear e0
              refine wp_region_leftL (fun V => Frm V1.heap.size [] V1 V) 1000 (by kernel_rfl) ?_
              have hS : Frm V1.heap.size [] V1 V1.drew := (Frm.refl _ _ V1).drew
              have HS := Lib.hid hS
              clear hS
              first | ((first | refine LeftL.tkF (v := ?_) 0 rfl HS.out ?_ ?_ | refine LeftL.tkG (v := ?_) 0 rfl HS.out ?_ ?_); rotate_left; (· intro V hV; obtain ⟨q0, q1, q2⟩ := HFX.out V hV; clear hV; go_simp; rfl)) | refine LeftL.tkN 0 rfl HS.out ?_
              (intro K' hK'; go_simp; refine hK' _ ?_; clear hK' K')
              first | ((first | refine LeftL.tkF (v := ?_) 1 rfl HS.out ?_ ?_ | refine LeftL.tkG (v := ?_) 1 rfl HS.out ?_ ?_); rotate_left; (· intro V hV; obtain ⟨q0, q1, q2⟩ := HFX.out V hV; clear hV; go_simp; rfl)) | refine LeftL.tkN 1 rfl HS.out ?_
              (intro K' hK'; go_simp; refine hK' _ ?_; clear hK' K')
              refine LeftL.one 2 rfl (by kernel_rfl) ?_
              go_wp2_with fail
              refine (within_fr pt 0 10000000 _).mono ?_; rintro e w1 ⟨rfl, hf1⟩
              have hS1 := HS.out.call hf1 HS.out.size (by simp)
              clear hf1 HS
              have HS := Lib.hid hS1
              clear hS1
              rw [c1]
              go_wp2_with fail
              first | refine ⟨fun _ => HS.out, ?_⟩ | refine ⟨HS.out, ?_⟩
              first | ((first | refine LeftL.tkF (v := ?_) 3 rfl HS.out ?_ ?_ | refine LeftL.tkG (v := ?_) 3 rfl HS.out ?_ ?_); rotate_left; (· intro V hV; obtain ⟨q0, q1, q2⟩ := HFX.out V hV; clear hV; go_simp; rfl)) | refine LeftL.tkN 3 rfl HS.out ?_
              (intro K' hK'; go_simp; refine hK' _ ?_; clear hK' K')
              first | ((first | refine LeftL.tkF (v := ?_) 4 rfl HS.out ?_ ?_ | refine LeftL.tkG (v := ?_) 4 rfl HS.out ?_ ?_); rotate_left; (· intro V hV; obtain ⟨q0, q1, q2⟩ := HFX.out V hV; clear hV; go_simp; rfl)) | refine LeftL.tkN 4 rfl HS.out ?_
              (intro K' hK'; go_simp; refine hK' _ ?_; clear hK' K')
              first | ((first | refine LeftL.tkF (v := ?_) 5 rfl HS.out ?_ ?_ | refine LeftL.tkG (v := ?_) 5 rfl HS.out ?_ ?_); rotate_left; (· intro V hV; obtain ⟨q0, q1, q2⟩ := HFX.out V hV; clear hV; go_simp; rfl)) | refine LeftL.tkN 5 rfl HS.out ?_
              (intro K' hK'; go_simp; refine hK' _ ?_; clear hK' K')
              first | ((first | refine LeftL.tkF (v := ?_) 6 rfl HS.out ?_ ?_ | refine LeftL.tkG (v := ?_) 6 rfl HS.out ?_ ?_); rotate_left; (· intro V hV; obtain ⟨q0, q1, q2⟩ := HFX.out V hV; clear hV; go_simp; rfl)) | refine LeftL.tkN 6 rfl HS.out ?_
              (intro K' hK'; go_simp; refine hK' _ ?_; clear hK' K')
              refine LeftL.one 7 rfl (by kernel_rfl) ?_
              go_wp2_with fail
              refine (within_fr ph (-100000) 100000 _).mono ?_; rintro e w1 ⟨rfl, hf1⟩
              have hS1 := HS.out.call hf1 HS.out.size (by simp)
              clear hf1 HS
              have HS := Lib.hid hS1
              clear hS1
              rw [c2]
              go_wp2_with fail
              first | refine ⟨fun _ => HS.out, ?_⟩ | refine ⟨HS.out, ?_⟩
              first | ((first | refine LeftL.tkF (v := ?_) 8 rfl HS.out ?_ ?_ | refine LeftL.tkG (v := ?_) 8 rfl HS.out ?_ ?_); rotate_left; (· intro V hV; obtain ⟨q0, q1, q2⟩ := HFX.out V hV; clear hV; go_simp; rfl)) | refine LeftL.tkN 8 rfl HS.out ?_
              (intro K' hK'; go_simp; refine hK' _ ?_; clear hK' K')
              first | ((first | refine LeftL.tkF (v := ?_) 9 rfl HS.out ?_ ?_ | refine LeftL.tkG (v := ?_) 9 rfl HS.out ?_ ?_); rotate_left; (· intro V hV; obtain ⟨q0, q1, q2⟩ := HFX.out V hV; clear hV; go_simp; rfl)) | refine LeftL.tkN 9 rfl HS.out ?_
              (intro K' hK'; go_simp; refine hK' _ ?_; clear hK' K')
              first | ((first | refine LeftL.tkF (v := ?_) 10 rfl HS.out ?_ ?_ | refine LeftL.tkG (v := ?_) 10 rfl HS.out ?_ ?_); rotate_left; (· intro V hV; obtain ⟨q0, q1, q2⟩ := HFX.out V hV; clear hV; go_simp; rfl)) | refine LeftL.tkN 10 rfl HS.out ?_
              (intro K' hK'; go_simp; refine hK' _ ?_; clear hK' K')
              first | ((first | refine LeftL.tkF (v := ?_) 11 rfl HS.out ?_ ?_ | refine LeftL.tkG (v := ?_) 11 rfl HS.out ?_ ?_); rotate_left; (· intro V hV; obtain ⟨q0, q1, q2⟩ := HFX.out V hV; clear hV; go_simp; rfl)) | refine LeftL.tkN 11 rfl HS.out ?_
              (intro K' hK'; go_simp; refine hK' _ ?_; clear hK' K')
              first | ((first | refine LeftL.tkF (v := ?_) 12 rfl HS.out ?_ ?_ | refine LeftL.tkG (v := ?_) 12 rfl HS.out ?_ ?_); rotate_left; (· intro V hV; obtain ⟨q0, q1, q2⟩ := HFX.out V hV; clear hV; go_simp; rfl)) | refine LeftL.tkN 12 rfl HS.out ?_
              (intro K' hK'; go_simp; refine hK' _ ?_; clear hK' K')
              first | ((first | refine LeftL.tkF (v := ?_) 13 rfl HS.out ?_ ?_ | refine LeftL.tkG (v := ?_) 13 rfl HS.out ?_ ?_); rotate_left; (· intro V hV; obtain ⟨q0, q1, q2⟩ := HFX.out V hV; clear hV; go_simp; rfl)) | refine LeftL.tkN 13 rfl HS.out ?_
              (intro K' hK'; go_simp; refine hK' _ ?_; clear hK' K')
              first | ((first | refine LeftL.tkF (v := ?_) 14 rfl HS.out ?_ ?_ | refine LeftL.tkG (v := ?_) 14 rfl HS.out ?_ ?_); rotate_left; (· intro V hV; obtain ⟨q0, q1, q2⟩ := HFX.out V hV; clear hV; go_simp; rfl)) | refine LeftL.tkN 14 rfl HS.out ?_
              (intro K' hK'; go_simp; refine hK' _ ?_; clear hK' K')
              first | ((first | refine LeftL.tkF (v := ?_) 15 rfl HS.out ?_ ?_ | refine LeftL.tkG (v := ?_) 15 rfl HS.out ?_ ?_); rotate_left; (· intro V hV; obtain ⟨q0, q1, q2⟩ := HFX.out V hV; clear hV; go_simp; rfl)) | refine LeftL.tkN 15 rfl HS.out ?_
              (intro K' hK'; go_simp; refine hK' _ ?_; clear hK' K')
              first | ((first | refine LeftL.tkF (v := ?_) 16 rfl HS.out ?_ ?_ | refine LeftL.tkG (v := ?_) 16 rfl HS.out ?_ ?_); rotate_left; (· intro V hV; obtain ⟨q0, q1, q2⟩ := HFX.out V hV; clear hV; go_simp; rfl)) | refine LeftL.tkN 16 rfl HS.out ?_
              (intro K' hK'; go_simp; refine hK' _ ?_; clear hK' K')
              first | ((first | refine LeftL.tkF (v := ?_) 17 rfl HS.out ?_ ?_ | refine LeftL.tkG (v := ?_) 17 rfl HS.out ?_ ?_); rotate_left; (· intro V hV; obtain ⟨q0, q1, q2⟩ := HFX.out V hV; clear hV; go_simp; rfl)) | refine LeftL.tkN 17 rfl HS.out ?_
              (intro K' hK'; go_simp; refine hK' _ ?_; clear hK' K')
              first | ((first | refine LeftL.tkF (v := ?_) 18 rfl HS.out ?_ ?_ | refine LeftL.tkG (v := ?_) 18 rfl HS.out ?_ ?_); rotate_left; (· intro V hV; obtain ⟨q0, q1, q2⟩ := HFX.out V hV; clear hV; go_simp; rfl)) | refine LeftL.tkN 18 rfl HS.out ?_
              (intro K' hK'; go_simp; refine hK' _ ?_; clear hK' K')
              first | ((first | refine LeftL.tkF (v := ?_) 19 rfl HS.out ?_ ?_ | refine LeftL.tkG (v := ?_) 19 rfl HS.out ?_ ?_); rotate_left; (· intro V hV; obtain ⟨q0, q1, q2⟩ := HFX.out V hV; clear hV; go_simp; rfl)) | refine LeftL.tkN 19 rfl HS.out ?_
              (intro K' hK'; go_simp; refine hK' _ ?_; clear hK' K')
              first | ((first | refine LeftL.tkF (v := ?_) 20 rfl HS.out ?_ ?_ | refine LeftL.tkG (v := ?_) 20 rfl HS.out ?_ ?_); rotate_left; (· intro V hV; obtain ⟨q0, q1, q2⟩ := HFX.out V hV; clear hV; go_simp; rfl)) | refine LeftL.tkN 20 rfl HS.out ?_
              (intro K' hK'; go_simp; refine hK' _ ?_; clear hK' K')
              first | ((first | refine LeftL.tkF (v := ?_) 21 rfl HS.out ?_ ?_ | refine LeftL.tkG (v := ?_) 21 rfl HS.out ?_ ?_); rotate_left; (· intro V hV; obtain ⟨q0, q1, q2⟩ := HFX.out V hV; clear hV; go_simp; rfl)) | refine LeftL.tkN 21 rfl HS.out ?_
              (intro K' hK'; go_simp; refine hK' _ ?_; clear hK' K')
              first | ((first | refine LeftL.tkF (v := ?_) 22 rfl HS.out ?_ ?_ | refine LeftL.tkG (v := ?_) 22 rfl HS.out ?_ ?_); rotate_left; (· intro V hV; obtain ⟨q0, q1, q2⟩ := HFX.out V hV; clear hV; go_simp; rfl)) | refine LeftL.tkN 22 rfl HS.out ?_
              (intro K' hK'; go_simp; refine hK' _ ?_; clear hK' K')
              first | ((first | refine LeftL.tkF (v := ?_) 23 rfl HS.out ?_ ?_ | refine LeftL.tkG (v := ?_) 23 rfl HS.out ?_ ?_); rotate_left; (· intro V hV; obtain ⟨q0, q1, q2⟩ := HFX.out V hV; clear hV; go_simp; rfl)) | refine LeftL.tkN 23 rfl HS.out ?_
              (intro K' hK'; go_simp; refine hK' _ ?_; clear hK' K')
              first | ((first | refine LeftL.tkF (v := ?_) 24 rfl HS.out ?_ ?_ | refine LeftL.tkG (v := ?_) 24 rfl HS.out ?_ ?_); rotate_left; (· intro V hV; obtain ⟨q0, q1, q2⟩ := HFX.out V hV; clear hV; go_simp; rfl)) | refine LeftL.tkN 24 rfl HS.out ?_
              (intro K' hK'; go_simp; refine hK' _ ?_; clear hK' K')
              refine LeftL.done (by kernel_rfl) ?_
              go_wp2_with fail
              go_meet
              case rel => exact ⟨by rw [HBD.out, c1, c2, E0.out]; rfl, HS.out⟩
      obtain ⟨rfl, hfc⟩ := hcut
      have hfr := HFR.out.call hfc HFR.out.size (by simp)
      clear hfc HFR HFX
      cases bad
      · have htp : tpB T j = true := by have := HBAD.out; simpa using this.symm
        have HFR := Lib.hid hfr
        have HTP := Lib.hid htp
        clear htp hfr
        go_wp2_with fail
        (try simp only [w4, w5])
        exact ⟨⟨j + 1, by simp, HJL.out, fun k hk => by
          rcases Nat.lt_or_ge k j with h | h
          · exact HALL.out k h
          · obtain rfl : k = j := by omega
            exact HTP.out, HFR.out⟩, meas_up HJL.out⟩
      · have htp : tpB T j = false := by have := HBAD.out; simpa using this.symm
        have hres : r = false := by
          rw [HR0.out]
          unfold tideB
          rw [show (List.range n).all (tpB T) = false from by
            rw [← Bool.not_eq_true, List.all_eq_true]
            intro h
            have := h j (by simpa using HJL.out)
            rw [htp] at this
            cases this]
          rfl
        subst hres
        have HFR := Lib.hid hfr
        have HTP := Lib.hid htp
        clear htp hfr
        go_wp2_with fail
        go_ret
        exact ⟨rfl, HFR.out⟩
    · have hjl' : ¬ (j : Int) < (n : Int) := by omega
      obtain rfl : j = n := by omega
      have hres : r = inB j 1 100 := by
        rw [HR0.out]
        unfold tideB
        rw [show (List.range j).all (tpB T) = true from by rw [List.all_eq_true]; intro i hi; exact hall i (by simpa using hi)]
        rfl
      have HFR := Lib.hid hfr
      have HRES := Lib.hid hres
      clear hres hfr
      go_wp2_with (go_at_call 53; refine (within_any _ _ _ _).mono ?_; rintro e w' ⟨rfl, rfl⟩)
      go_ret
      exact ⟨by rw [HRES.out]; rfl, HFR.out⟩
end Go.Proofs.YtfmigicmfolbjaaDoor
