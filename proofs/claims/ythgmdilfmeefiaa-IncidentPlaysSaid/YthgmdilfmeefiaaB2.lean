/-
  Texts J7 of this claim, one behind the other.
-/
import Derived.Test.YthgmdilfmeefiaaB1
namespace Go.Proofs.Ythgmdilfmeefiaa
set_option linter.all false
set_option linter.unusedSimpArgs false
set_option linter.unusedVariables false
open Go.RowKit

theorem mod_nat (a b : Nat) : Int.tmod (a : Int) (b : Int) = ((a % b : Nat) : Int) := by
  rw [Int.tmod_eq_emod_of_nonneg (by omega)]; rfl
theorem sp_eq (a b : Spt) : (a = b) ↔ (a.1 = b.1 ∧ a.2 = b.2) := by
  obtain ⟨a0, a1⟩ := a; obtain ⟨b0, b1⟩ := b; simp
set_option maxRecDepth 100000 in
set_option maxHeartbeats 16000000 in
theorem area_any (ad : Option Addr) (b off n cap : Nat) (L : List Spt) (hn : n = L.length) (w : World) (hr : RwP w ad b off n L) :
    Calls Try.prog 56 #[.slice ad n cap] w fun e w' => e = .returned (.bool (areaB L)) ∧ Frm w.heap.size [] w w' := by
  have hf0 := Try.func56
  have hlen := hr.len
  have hbp := badPlace_any ad b off n cap L hn w hr
  have HR := Lib.hid hr
  have HN := Lib.hid hn
  have HBP := Lib.hid hbp
  clear hbp hn hr
  go_enter Try.func56, Try.ntmps56
  go_wp2_with fail
  refine (withinR_any _ _ _ _).mono ?_; rintro e w' ⟨rfl, rfl⟩
  cases h1 : inB (n : Int) 1 12
  · have ha := area_n HN.out h1
    clear HBP
    have H1 := Lib.hid h1
    have HA := Lib.hid ha
    clear ha h1
    go_wp2_with fail
    go_ret
    exact ⟨by rw [HA.out]; rfl, Frm.refl _ _ _⟩
  have h12 := inB_iff.1 h1
  have H1 := Lib.hid h1
  clear h1
  go_wp2_with fail
  refine HBP.out.mono ?_; rintro e w1 ⟨rfl, hf1⟩
  cases h2 : L.all plcB
  · have ha := area_p h2
    have H2 := Lib.hid h2
    have HA := Lib.hid ha
    have HF1 := Lib.hid hf1
    clear hf1 ha h2
    go_wp2_with fail
    go_ret
    exact ⟨by rw [HA.out]; rfl, HF1.out⟩
  have had := HR.out.ad (by omega)
  subst had
  by_cases h3 : n < 3
  · have h3' : (n : Int) < 3 := by omega
    have ha := area_12 (by rw [← HN.out]; exact H1.out) h2 (by have := HN.out; omega)
    rw [← HN.out] at ha
    by_cases hn1 : n = 1
    · subst hn1
      rw [decide_eq_true rfl, Bool.true_or] at ha
      have hfx : ∀ V, Frm w1.heap.size [] w1 V → True ∧ True := fun _ _ => ⟨trivial, trivial⟩
      clear h12 h3 h3' hlen
      have H2 := Lib.hid h2
      have HA := Lib.hid ha
      have HF1 := Lib.hid hf1
      have HFX := Lib.hid hfx
      clear hfx hf1 ha h2
      go_upto_region 5 with fail
      refine wp_region_leftL (fun V => Frm w1.heap.size [] w1 V) 1000 (by kernel_rfl) ?_
      have hS : Frm w1.heap.size [] w1 w1.drew := (Frm.refl _ _ w1).drew
      have HS := Lib.hid hS
      clear hS
      first | (refine LeftL.tkG (v := ?_) 0 rfl HS.out ?_ ?_; rotate_left; · intro V hV; obtain ⟨q1, q2⟩ := HFX.out V hV; clear hV; go_simp; rfl) | refine LeftL.tkN 0 rfl HS.out ?_
      (intro K h; go_simp; refine h _ ?_; clear h K)
      first | (refine LeftL.tkG (v := ?_) 1 rfl HS.out ?_ ?_; rotate_left; · intro V hV; obtain ⟨q1, q2⟩ := HFX.out V hV; clear hV; go_simp; rfl) | refine LeftL.tkN 1 rfl HS.out ?_
      (intro K h; go_simp; refine h _ ?_; clear h K)
      first | (refine LeftL.tkG (v := ?_) 2 rfl HS.out ?_ ?_; rotate_left; · intro V hV; obtain ⟨q1, q2⟩ := HFX.out V hV; clear hV; go_simp; rfl) | refine LeftL.tkN 2 rfl HS.out ?_
      (intro K h; go_simp; refine h _ ?_; clear h K)
      first | (refine LeftL.tkG (v := ?_) 3 rfl HS.out ?_ ?_; rotate_left; · intro V hV; obtain ⟨q1, q2⟩ := HFX.out V hV; clear hV; go_simp; rfl) | refine LeftL.tkN 3 rfl HS.out ?_
      (intro K h; go_simp; refine h _ ?_; clear h K)
      first | (refine LeftL.tkG (v := ?_) 4 rfl HS.out ?_ ?_; rotate_left; · intro V hV; obtain ⟨q1, q2⟩ := HFX.out V hV; clear hV; go_simp; rfl) | refine LeftL.tkN 4 rfl HS.out ?_
      (intro K h; go_simp; refine h _ ?_; clear h K)
      first | (refine LeftL.tkG (v := ?_) 5 rfl HS.out ?_ ?_; rotate_left; · intro V hV; obtain ⟨q1, q2⟩ := HFX.out V hV; clear hV; go_simp; rfl) | refine LeftL.tkN 5 rfl HS.out ?_
      (intro K h; go_simp; refine h _ ?_; clear h K)
      first | (refine LeftL.tkG (v := ?_) 6 rfl HS.out ?_ ?_; rotate_left; · intro V hV; obtain ⟨q1, q2⟩ := HFX.out V hV; clear hV; go_simp; rfl) | refine LeftL.tkN 6 rfl HS.out ?_
      (intro K h; go_simp; refine h _ ?_; clear h K)
      first | (refine LeftL.tkG (v := ?_) 7 rfl HS.out ?_ ?_; rotate_left; · intro V hV; obtain ⟨q1, q2⟩ := HFX.out V hV; clear hV; go_simp; rfl) | refine LeftL.tkN 7 rfl HS.out ?_
      (intro K h; go_simp; refine h _ ?_; clear h K)
      first | (refine LeftL.tkG (v := ?_) 8 rfl HS.out ?_ ?_; rotate_left; · intro V hV; obtain ⟨q1, q2⟩ := HFX.out V hV; clear hV; go_simp; rfl) | refine LeftL.tkN 8 rfl HS.out ?_
      (intro K h; go_simp; refine h _ ?_; clear h K)
      first | (refine LeftL.tkG (v := ?_) 9 rfl HS.out ?_ ?_; rotate_left; · intro V hV; obtain ⟨q1, q2⟩ := HFX.out V hV; clear hV; go_simp; rfl) | refine LeftL.tkN 9 rfl HS.out ?_
      (intro K h; go_simp; refine h _ ?_; clear h K)
      first | (refine LeftL.tkG (v := ?_) 10 rfl HS.out ?_ ?_; rotate_left; · intro V hV; obtain ⟨q1, q2⟩ := HFX.out V hV; clear hV; go_simp; rfl) | refine LeftL.tkN 10 rfl HS.out ?_
      (intro K h; go_simp; refine h _ ?_; clear h K)
      refine LeftL.one 11 rfl (by kernel_rfl) ?_
      go_wp2_with fail
      first | refine ⟨fun _ => HS.out, ?_⟩ | refine ⟨HS.out, ?_⟩
      refine LeftL.done (by kernel_rfl) ?_
      have hf := HF1.out.call HS.out HF1.out.size (by simp)
      clear HS HFX
      have HF := Lib.hid hf
      clear hf
      go_wp2_with fail
      go_ret
      exact ⟨by rw [HA.out]; rfl, HF.out⟩
    · obtain rfl : n = 2 := by omega
      rw [decide_eq_false hn1, Bool.false_or] at ha
      obtain ⟨x, hx⟩ : ∃ x, x = spt L 0 := ⟨_, rfl⟩
      obtain ⟨y, hy⟩ : ∃ x, x = spt L 1 := ⟨_, rfl⟩
      rw [← hx, ← hy] at ha
      obtain ⟨x0, x1⟩ := x
      obtain ⟨y0, y1⟩ := y
      have hl0 : ∀ V, Frm w1.heap.size [] w1 V → (loadVar 71 ⟨b, off, none⟩).run Try.prog V = .ok (.agg #[.int .i64 x0, .int .i64 x1]) V := fun V hV => by
        have := (HR.out.frm (hf1.call hV hf1.size (by simp)) (Nat.le_refl _)).load (P := Try.prog) Try.underlying71 rfl (i := 0) (by omega) (info71s _)
        rw [Nat.zero_mul, Nat.add_zero] at this
        rw [← hx] at this; exact this
      have hl1 : ∀ V, Frm w1.heap.size [] w1 V → (loadVar 71 ⟨b, off + 2, none⟩).run Try.prog V = .ok (.agg #[.int .i64 y0, .int .i64 y1]) V := fun V hV => by
        have := (HR.out.frm (hf1.call hV hf1.size (by simp)) (Nat.le_refl _)).load (P := Try.prog) Try.underlying71 rfl (i := 1) (by omega) (info71s _)
        rw [Nat.one_mul] at this
        rw [← hy] at this; exact this
      have hfx : ∀ V, Frm w1.heap.size [] w1 V → True ∧ True := fun _ _ => ⟨trivial, trivial⟩
      clear hx hy h12 h3 h3' hn1 hlen
      have H2 := Lib.hid h2
      have HA := Lib.hid ha
      have HF1 := Lib.hid hf1
      have HL0 := Lib.hid hl0
      have HL1 := Lib.hid hl1
      have HFX := Lib.hid hfx
      clear hfx hl1 hl0 hf1 ha h2
      go_upto_region 5 with fail
      refine wp_region_leftL (fun V => Frm w1.heap.size [] w1 V) 1000 (by kernel_rfl) ?_
      have hS : Frm w1.heap.size [] w1 w1.drew := (Frm.refl _ _ w1).drew
      have HS := Lib.hid hS
      clear hS
      first | (refine LeftL.tkG (v := ?_) 0 rfl HS.out ?_ ?_; rotate_left; · intro V hV; obtain ⟨q1, q2⟩ := HFX.out V hV; clear hV; go_simp; rfl) | refine LeftL.tkN 0 rfl HS.out ?_
      (intro K h; go_simp; refine h _ ?_; clear h K)
      first | (refine LeftL.tkG (v := ?_) 1 rfl HS.out ?_ ?_; rotate_left; · intro V hV; obtain ⟨q1, q2⟩ := HFX.out V hV; clear hV; go_simp; rfl) | refine LeftL.tkN 1 rfl HS.out ?_
      (intro K h; go_simp; refine h _ ?_; clear h K)
      first | (refine LeftL.tkG (v := ?_) 2 rfl HS.out ?_ ?_; rotate_left; · intro V hV; obtain ⟨q1, q2⟩ := HFX.out V hV; clear hV; go_simp; rfl) | refine LeftL.tkN 2 rfl HS.out ?_
      (intro K h; go_simp; refine h _ ?_; clear h K)
      first | (refine LeftL.tkG (v := ?_) 3 rfl HS.out ?_ ?_; rotate_left; · intro V hV; obtain ⟨q1, q2⟩ := HFX.out V hV; clear hV; go_simp; rfl) | refine LeftL.tkN 3 rfl HS.out ?_
      (intro K h; go_simp; refine h _ ?_; clear h K)
      first | (refine LeftL.tkG (v := ?_) 4 rfl HS.out ?_ ?_; rotate_left; · intro V hV; obtain ⟨q1, q2⟩ := HFX.out V hV; clear hV; go_simp; rfl) | refine LeftL.tkN 4 rfl HS.out ?_
      (intro K h; go_simp; refine h _ ?_; clear h K)
      refine LeftL.take 5 rfl (by kernel_rfl) (fun _ _ d _ _ h => by cases d <;> exact h) (yields_loadG (ty := 71) rfl rfl rfl (HL0.out)) HS.out ?_; (intro K' hK'; go_simp; refine hK' _ ?_; clear hK' K')
      first | (refine LeftL.tkG (v := ?_) 6 rfl HS.out ?_ ?_; rotate_left; · intro V hV; obtain ⟨q1, q2⟩ := HFX.out V hV; clear hV; go_simp; rfl) | refine LeftL.tkN 6 rfl HS.out ?_
      (intro K h; go_simp; refine h _ ?_; clear h K)
      first | (refine LeftL.tkG (v := ?_) 7 rfl HS.out ?_ ?_; rotate_left; · intro V hV; obtain ⟨q1, q2⟩ := HFX.out V hV; clear hV; go_simp; rfl) | refine LeftL.tkN 7 rfl HS.out ?_
      (intro K h; go_simp; refine h _ ?_; clear h K)
      refine LeftL.take 8 rfl (by kernel_rfl) (fun _ _ d _ _ h => by cases d <;> exact h) (yields_loadG (ty := 71) rfl rfl rfl (HL1.out)) HS.out ?_; (intro K' hK'; go_simp; refine hK' _ ?_; clear hK' K')
      by_cases e0 : x0 = y0
      · by_cases e1 : x1 = y1
        · subst e0
          subst e1
          have hb : areaB L = false := by rw [HA.out]; simp
          have HB := Lib.hid hb
          clear hb
          first | (refine LeftL.tkG (v := ?_) 9 rfl HS.out ?_ ?_; rotate_left; · intro V hV; obtain ⟨q1, q2⟩ := HFX.out V hV; clear hV; go_simp; rfl) | refine LeftL.tkN 9 rfl HS.out ?_
          (intro K h; go_simp; refine h _ ?_; clear h K)
          first | (refine LeftL.tkG (v := ?_) 10 rfl HS.out ?_ ?_; rotate_left; · intro V hV; obtain ⟨q1, q2⟩ := HFX.out V hV; clear hV; go_simp; rfl) | refine LeftL.tkN 10 rfl HS.out ?_
          (intro K h; go_simp; refine h _ ?_; clear h K)
          refine LeftL.one 11 rfl (by kernel_rfl) ?_
          go_wp2_with fail
          first | refine ⟨fun _ => HS.out, ?_⟩ | refine ⟨HS.out, ?_⟩
          refine LeftL.done (by kernel_rfl) ?_
          have hf := HF1.out.call HS.out HF1.out.size (by simp)
          clear HS HFX
          have HF := Lib.hid hf
          clear hf
          go_wp2_with fail
          go_ret
          exact ⟨by rw [HB.out]; rfl, HF.out⟩
        · have hb : areaB L = true := by rw [HA.out]; simp [e1]
          have e2 : (x1 == y1) = false := by simp [e1]
          subst e0
          have HB := Lib.hid hb
          clear hb
          first | (refine LeftL.tkG (v := ?_) 9 rfl HS.out ?_ ?_; rotate_left; · intro V hV; obtain ⟨q1, q2⟩ := HFX.out V hV; clear hV; go_simp; rfl) | refine LeftL.tkN 9 rfl HS.out ?_
          (intro K h; go_simp; refine h _ ?_; clear h K)
          first | (refine LeftL.tkG (v := ?_) 10 rfl HS.out ?_ ?_; rotate_left; · intro V hV; obtain ⟨q1, q2⟩ := HFX.out V hV; clear hV; go_simp; rfl) | refine LeftL.tkN 10 rfl HS.out ?_
          (intro K h; go_simp; refine h _ ?_; clear h K)
          refine LeftL.one 11 rfl (by kernel_rfl) ?_
          go_wp2_with fail
          first | refine ⟨fun _ => HS.out, ?_⟩ | refine ⟨HS.out, ?_⟩
          refine LeftL.done (by kernel_rfl) ?_
          have hf := HF1.out.call HS.out HF1.out.size (by simp)
          clear HS HFX
          have HF := Lib.hid hf
          clear hf
          go_wp2_with fail
          go_ret
          exact ⟨by rw [HB.out]; rfl, HF.out⟩
      · have hb : areaB L = true := by rw [HA.out]; simp [e0]
        have e2 : (x0 == y0) = false := by simp [e0]
        have HB := Lib.hid hb
        clear hb
        first | (refine LeftL.tkG (v := ?_) 9 rfl HS.out ?_ ?_; rotate_left; · intro V hV; obtain ⟨q1, q2⟩ := HFX.out V hV; clear hV; go_simp; rfl) | refine LeftL.tkN 9 rfl HS.out ?_
        (intro K h; go_simp; refine h _ ?_; clear h K)
        first | (refine LeftL.tkG (v := ?_) 10 rfl HS.out ?_ ?_; rotate_left; · intro V hV; obtain ⟨q1, q2⟩ := HFX.out V hV; clear hV; go_simp; rfl) | refine LeftL.tkN 10 rfl HS.out ?_
        (intro K h; go_simp; refine h _ ?_; clear h K)
        refine LeftL.one 11 rfl (by kernel_rfl) ?_
        go_wp2_with fail
        first | refine ⟨fun _ => HS.out, ?_⟩ | refine ⟨HS.out, ?_⟩
        refine LeftL.done (by kernel_rfl) ?_
        have hf := HF1.out.call HS.out HF1.out.size (by simp)
        clear HS HFX
        have HF := Lib.hid hf
        clear hf
        go_wp2_with fail
        go_ret
        exact ⟨by rw [HB.out]; rfl, HF.out⟩
  have h3' : ¬ (n : Int) < 3 := by omega
  have ha := area_3 (by rw [← HN.out]; exact H1.out) h2 (by have := HN.out; omega)
  have hok : ∀ i, i < n → SpOK (spt L i) := fun i hi => spt_ok h2 (by have := HN.out; omega)
  have hce : ∀ i, cornB L i = (decide (0 < turnZ (spt L i) (spt L ((i + 1) % n)) (spt L ((i + 2) % n))) && !rightOf L (spt L i) (spt L ((i + 1) % n))) := fun i => by rw [corn_eq, ← HN.out]
  have H2 := Lib.hid h2
  have HA := Lib.hid ha
  have HF1 := Lib.hid hf1
  have HOK := Lib.hid hok
  have HCE := Lib.hid hce
  clear hce hok hf1 ha h2
  go_wp2_with fail
  go_loopw [31] (fun s31 wr => ∃ i : Nat, s31 = .int .i64 i ∧ i ≤ n ∧ (∀ j, j < i → cornB L j = true) ∧ Frm w1.heap.size [] w1 wr) (fun s31 _ => n - (intOf s31).toNat)
  case atStart => exact ⟨0, rfl, Nat.zero_le _, fun j hj => absurd hj (by omega), Frm.refl _ _ _⟩
  case round =>
    obtain ⟨i, rfl, hi, hno, hfr⟩ := hrel
    by_cases hin : i < n
    rotate_left
    · have hin' : ¬ (i : Int) < (n : Int) := by omega
      obtain rfl : i = n := by omega
      have hb : areaB L = true := by
        rw [HA.out, List.all_eq_true]
        intro x hx
        exact hno x (by have h5 := HN.out; rw [h5]; simpa using hx)
      have hf := HF1.out.call hfr HF1.out.size (by simp)
      clear hno hfr
      have HB := Lib.hid hb
      have HF := Lib.hid hf
      clear hf hb
      go_wp2_with fail
      go_ret
      exact ⟨by rw [HB.out]; rfl, HF.out⟩
    have hin' : (i : Int) < (n : Int) := by omega
    obtain ⟨y4, y5⟩ := wrapUp hin hlen
    have hms := meas_up hin
    have hn0 : ¬ (n : Int) = 0 := by omega
    have hnn : ¬ n = 0 := by omega
    have g2 : IntKind.i64.wrap ((i : Int) + 2) = (i : Int) + 2 := IntWalk.i64_in _ (by omega)
    have t2 : Int.tmod ((i : Int) + 2) (n : Int) = (((i + 2) % n : Nat) : Int) := by have := mod_nat (i + 2) n; rw [← this]; rfl
    have w2i : IntKind.i64.wrap (((i + 2) % n : Nat) : Int) = (((i + 2) % n : Nat) : Int) := IntWalk.i64_in _ (by have := Nat.mod_lt (i + 2) (show 0 < n by omega); omega)
    have q1 : (i + 1) % n < n := Nat.mod_lt _ (by omega)
    have q2 : (i + 2) % n < n := Nat.mod_lt _ (by omega)
    have hci := HCE.out i
    have oka := HOK.out i hin
    have okb := HOK.out _ q1
    have okc := HOK.out _ q2
    have hrr := HR.out.frm (HF1.out.call hfr HF1.out.size (by simp)) (Nat.le_refl _)
    obtain ⟨pa, hpa⟩ : ∃ p, p = spt L i := ⟨_, rfl⟩
    obtain ⟨pb, hpb⟩ : ∃ p, p = spt L ((i + 1) % n) := ⟨_, rfl⟩
    obtain ⟨pc, hpc⟩ : ∃ p, p = spt L ((i + 2) % n) := ⟨_, rfl⟩
    rw [← hpa, ← hpb, ← hpc] at hci
    rw [← hpa] at oka
    rw [← hpb] at okb
    rw [← hpc] at okc
    have hla : (loadVar 71 ⟨b, off + i * 2, none⟩).run Try.prog wr = .ok (.agg (spC pa).toArray) wr := by rw [hpa]; exact hrr.load (P := Try.prog) Try.underlying71 rfl hin (info71s _)
    have hlb : ∀ V, Frm wr.heap.size [] wr V → (loadVar 71 ⟨b, off + (i + 1) % n * 2, none⟩).run Try.prog V = .ok (.agg (spC pb).toArray) V := fun V hV => by rw [hpb]; exact (hrr.frm hV (Nat.le_refl _)).load (P := Try.prog) Try.underlying71 rfl q1 (info71s _)
    have hlc : ∀ V, Frm wr.heap.size [] wr V → (loadVar 71 ⟨b, off + (i + 2) % n * 2, none⟩).run Try.prog V = .ok (.agg (spC pc).toArray) V := fun V hV => by rw [hpc]; exact (hrr.frm hV (Nat.le_refl _)).load (P := Try.prog) Try.underlying71 rfl q2 (info71s _)
    have q2n : ((i : Int) + 2) % (n : Int) = (((i + 2) % n : Nat) : Int) := rfl
    have q2e : ((i : Int) + 2) % (n : Int) < (n : Int) := by rw [q2n]; omega
    have q2z : (0 : Int) ≤ ((i : Int) + 2) % (n : Int) := by rw [q2n]; omega
    have q2y : ¬ ((i : Int) + 2) % (n : Int) < 0 := by rw [q2n]; omega
    have q2t : (((i : Int) + 2) % (n : Int)).toNat = (i + 2) % n := by rw [q2n]; omega
    have q1n : ((i : Int) + 1) % (n : Int) = (((i + 1) % n : Nat) : Int) := rfl
    have q1e : ((i : Int) + 1) % (n : Int) < (n : Int) := by rw [q1n]; omega
    have q1z : (0 : Int) ≤ ((i : Int) + 1) % (n : Int) := by rw [q1n]; omega
    have q1y : ¬ ((i : Int) + 1) % (n : Int) < 0 := by rw [q1n]; omega
    have q1t : (((i : Int) + 1) % (n : Int)).toNat = (i + 1) % n := by rw [q1n]; omega
    clear q2n q1n
    have q1i : (((i + 1) % n : Nat) : Int) < (n : Int) := by omega
    have q2i : (((i + 2) % n : Nat) : Int) < (n : Int) := by omega
    clear hrr hpa hpb hpc
    have HFR := Lib.hid hfr
    have HNO := Lib.hid hno
    have HIN := Lib.hid hin
    have HMS := Lib.hid hms
    have HCI := Lib.hid hci
    have OKA := Lib.hid oka
    have OKB := Lib.hid okb
    have OKC := Lib.hid okc
    have HLA := Lib.hid hla
    have HLB := Lib.hid hlb
    have HLC := Lib.hid hlc
    clear hlc hlb hla okc okb oka hci hms hin hno hfr
    go_wp2_with (first | (with_reducible refine atLoad 71 rfl ?_; refine wpList_loadE rfl rfl rfl HLA.out ?_) | (with_reducible refine atStore 71 rfl ?_; refine stop_ ?_))
    refine go_on ?_
    refine wpList_storeNew (P := Try.prog) (cs := spC pa) rfl rfl rfl rfl rfl info71 (spC_one _) ?_
    intro V1 hv1 k5 hz; clear hz
    obtain ⟨r5, hr5⟩ : ∃ g, g = wr.heap.size := ⟨_, rfl⟩
    rw [← hr5] at k5 ⊢
    dsimp only [Act.put]
    clear hr5
    have HV1 := Lib.hid hv1
    have K5 := Lib.hid k5
    clear k5 hv1
    go_wp2_with (first | (with_reducible refine atLoad 71 rfl ?_; refine wpList_loadE rfl rfl rfl (HLB.out _ HV1.out) ?_) | (with_reducible refine atStore 71 rfl ?_; refine stop_ ?_))
    refine go_on ?_
    refine wpList_storeNew (P := Try.prog) (cs := spC pb) rfl rfl rfl rfl rfl info71 (spC_one _) ?_
    intro V2 hv2 k6 hz; clear hz
    obtain ⟨r6, hr6⟩ : ∃ g, g = V1.heap.size := ⟨_, rfl⟩
    rw [← hr6] at k6 ⊢
    dsimp only [Act.put]
    have k5 := hv2.blk K5.out K5.out.lt (by simp)
    have hv := HV1.out.call hv2 HV1.out.size (by simp)
    clear hr6 hv2 HV1 K5
    have hfx : ∀ V, Frm V2.heap.size [] V2 V → True ∧ True := fun _ _ => ⟨trivial, trivial⟩
    have hl5 : ∀ V, Frm V2.heap.size [] V2 V → (loadVar 71 ⟨r5, 0, none⟩).run Try.prog V = .ok (.agg (spC pa).toArray) V := fun V hV => load_sp (hV.blk k5 k5.lt (by simp))
    have hl6 : ∀ V, Frm V2.heap.size [] V2 V → (loadVar 71 ⟨r6, 0, none⟩).run Try.prog V = .ok (.agg (spC pb).toArray) V := fun V hV => load_sp (hV.blk k6 k6.lt (by simp))
    have hl7 : ∀ V, Frm V2.heap.size [] V2 V → (loadVar 71 ⟨b, off + (i + 2) % n * 2, none⟩).run Try.prog V = .ok (.agg (spC pc).toArray) V := fun V hV => HLC.out V (hv.call hV hv.size (by simp))
    have htu : ∀ V, Calls Try.prog 79 #[.agg (spC pa).toArray, .agg (spC pb).toArray, .agg (spC pc).toArray] V fun e w' => e = .returned (.int .i64 (turnZ pa pb pc)) ∧ Frm V.heap.size [] V w' := fun V => turn_any pa pb pc V OKA.out OKB.out OKC.out
    have hro : ∀ V, Frm V2.heap.size [] V2 V → Calls Try.prog 76 #[.slice (some ⟨b, off, none⟩) n cap, .func (.func 80) #[] #[.pointer (some ⟨r5, 0, none⟩), .pointer (some ⟨r6, 0, none⟩)]] V fun e w' => e = .returned (.bool (rightOf L pa pb)) ∧ Frm V.heap.size [] V w' := fun V hV => rightOf_any (some ⟨b, off, none⟩) b off n cap L HN.out pa pb r5 r6 V (HR.out.frm (HF1.out.call (HFR.out.call (hv.call hV hv.size (by simp)) HFR.out.size (by simp)) HF1.out.size (by simp)) (Nat.le_refl _)) HOK.out OKA.out OKB.out (hV.blk k5 k5.lt (by simp)) (hV.blk k6 k6.lt (by simp))
    obtain ⟨t, ht⟩ : ∃ z, z = turnZ pa pb pc := ⟨_, rfl⟩
    rw [← ht] at htu HCI
    have hf := HF1.out.call (HFR.out.call hv HFR.out.size (by simp)) HF1.out.size (by simp)
    have hfr := HFR.out.call hv HFR.out.size (by simp)
    clear ht k5 k6 hv HLA HLB HLC OKA OKB OKC
    have HFX := Lib.hid hfx
    have HL5 := Lib.hid hl5
    have HL6 := Lib.hid hl6
    have HL7 := Lib.hid hl7
    have HTU := Lib.hid htu
    have HRO := Lib.hid hro
    have HF := Lib.hid hf
    have HFR2 := Lib.hid hfr
    clear hfr hf hro htu hl7 hl6 hl5 hfx
    go_upto_region 10 with fail
    refine wp_region_leftL (fun V => Frm V2.heap.size [] V2 V) 1000 (by kernel_rfl) ?_
    have hS : Frm V2.heap.size [] V2 V2.drew := (Frm.refl _ _ V2).drew
    have HS := Lib.hid hS
    clear hS
    refine LeftL.take 0 rfl (by kernel_rfl) (fun _ _ d _ _ h => by cases d <;> exact h) (yields_loadE (ty := 71) rfl rfl rfl (HL5.out)) HS.out ?_; (intro K' hK'; go_simp; refine hK' _ ?_; clear hK' K')
    refine LeftL.take 1 rfl (by kernel_rfl) (fun _ _ d _ _ h => by cases d <;> exact h) (yields_loadE (ty := 71) rfl rfl rfl (HL6.out)) HS.out ?_; (intro K' hK'; go_simp; refine hK' _ ?_; clear hK' K')
    first | (refine LeftL.tkG (v := ?_) 2 rfl HS.out ?_ ?_; rotate_left; · intro V hV; obtain ⟨z1, z2⟩ := HFX.out V hV; clear hV; go_simp; rfl) | refine LeftL.tkN 2 rfl HS.out ?_
    (intro K h; go_simp; refine h _ ?_; clear h K)
    first | (refine LeftL.tkG (v := ?_) 3 rfl HS.out ?_ ?_; rotate_left; · intro V hV; obtain ⟨z1, z2⟩ := HFX.out V hV; clear hV; go_simp; rfl) | refine LeftL.tkN 3 rfl HS.out ?_
    (intro K h; go_simp; refine h _ ?_; clear h K)
    first | (refine LeftL.tkG (v := ?_) 4 rfl HS.out ?_ ?_; rotate_left; · intro V hV; obtain ⟨z1, z2⟩ := HFX.out V hV; clear hV; go_simp; rfl) | refine LeftL.tkN 4 rfl HS.out ?_
    (intro K h; go_simp; refine h _ ?_; clear h K)
    first | (refine LeftL.tkG (v := ?_) 5 rfl HS.out ?_ ?_; rotate_left; · intro V hV; obtain ⟨z1, z2⟩ := HFX.out V hV; clear hV; go_simp; rfl) | refine LeftL.tkN 5 rfl HS.out ?_
    (intro K h; go_simp; refine h _ ?_; clear h K)
    first | (refine LeftL.tkG (v := ?_) 6 rfl HS.out ?_ ?_; rotate_left; · intro V hV; obtain ⟨z1, z2⟩ := HFX.out V hV; clear hV; go_simp; rfl) | refine LeftL.tkN 6 rfl HS.out ?_
    (intro K h; go_simp; refine h _ ?_; clear h K)
    first | (refine LeftL.tkG (v := ?_) 7 rfl HS.out ?_ ?_; rotate_left; · intro V hV; obtain ⟨z1, z2⟩ := HFX.out V hV; clear hV; go_simp; rfl) | refine LeftL.tkN 7 rfl HS.out ?_
    (intro K h; go_simp; refine h _ ?_; clear h K)
    refine LeftL.take 8 rfl (by kernel_rfl) (fun _ _ d _ _ h => by cases d <;> exact h) (yields_loadE (ty := 71) rfl rfl rfl (HL7.out)) HS.out ?_; (intro K' hK'; go_simp; refine hK' _ ?_; clear hK' K')
    refine LeftL.one 9 rfl (by kernel_rfl) ?_
    go_wp2_with fail
    refine (HTU.out _).mono ?_; rintro e X1 ⟨rfl, hx1⟩
    have hS1 := HS.out.call hx1 HS.out.size (by simp)
    clear hx1 HS HTU
    have HS := Lib.hid hS1
    clear hS1
    go_wp2_with fail
    first | refine ⟨fun _ => HS.out, ?_⟩ | refine ⟨HS.out, ?_⟩
    by_cases ht0 : t ≤ 0
    · have hd : decide (t ≤ 0) = true := decide_eq_true ht0
      have hcf : cornB L i = false := by rw [HCI.out, decide_eq_false (by omega), Bool.false_and]
      have hb : areaB L = false := by
        rw [HA.out, List.all_eq_false]
        exact ⟨i, by have := HN.out; have := HIN.out; simp; omega, by simp [hcf]⟩
      clear hcf
      have HB := Lib.hid hb
      clear hb
      first | (refine LeftL.tkG (v := ?_) 10 rfl HS.out ?_ ?_; rotate_left; · intro V hV; obtain ⟨z1, z2⟩ := HFX.out V hV; clear hV; go_simp; rfl) | refine LeftL.tkN 10 rfl HS.out ?_
      (intro K h; go_simp; refine h _ ?_; clear h K)
      first | (refine LeftL.tkG (v := ?_) 11 rfl HS.out ?_ ?_; rotate_left; · intro V hV; obtain ⟨z1, z2⟩ := HFX.out V hV; clear hV; go_simp; rfl) | refine LeftL.tkN 11 rfl HS.out ?_
      (intro K h; go_simp; refine h _ ?_; clear h K)
      first | (refine LeftL.tkG (v := ?_) 12 rfl HS.out ?_ ?_; rotate_left; · intro V hV; obtain ⟨z1, z2⟩ := HFX.out V hV; clear hV; go_simp; rfl) | refine LeftL.tkN 12 rfl HS.out ?_
      (intro K h; go_simp; refine h _ ?_; clear h K)
      first | (refine LeftL.tkG (v := ?_) 13 rfl HS.out ?_ ?_; rotate_left; · intro V hV; obtain ⟨z1, z2⟩ := HFX.out V hV; clear hV; go_simp; rfl) | refine LeftL.tkN 13 rfl HS.out ?_
      (intro K h; go_simp; refine h _ ?_; clear h K)
      first | (refine LeftL.tkG (v := ?_) 14 rfl HS.out ?_ ?_; rotate_left; · intro V hV; obtain ⟨z1, z2⟩ := HFX.out V hV; clear hV; go_simp; rfl) | refine LeftL.tkN 14 rfl HS.out ?_
      (intro K h; go_simp; refine h _ ?_; clear h K)
      first | (refine LeftL.tkG (v := ?_) 15 rfl HS.out ?_ ?_; rotate_left; · intro V hV; obtain ⟨z1, z2⟩ := HFX.out V hV; clear hV; go_simp; rfl) | refine LeftL.tkN 15 rfl HS.out ?_
      (intro K h; go_simp; refine h _ ?_; clear h K)
      refine LeftL.done (by kernel_rfl) ?_
      have hf := HF.out.call HS.out HF.out.size (by simp)
      clear HS HFX HF HL5 HL6 HL7
      have HF := Lib.hid hf
      clear hf
      go_wp2_with fail
      go_ret
      exact ⟨by rw [HB.out]; rfl, HF.out⟩
    · have hd : decide (t ≤ 0) = false := decide_eq_false ht0
      have hci2 := HCI.out
      rw [decide_eq_true (show 0 < t by omega), Bool.true_and] at hci2
      have HCI2 := Lib.hid hci2
      clear hci2
      first | (refine LeftL.tkG (v := ?_) 10 rfl HS.out ?_ ?_; rotate_left; · intro V hV; obtain ⟨z1, z2⟩ := HFX.out V hV; clear hV; go_simp; rfl) | refine LeftL.tkN 10 rfl HS.out ?_
      (intro K h; go_simp; refine h _ ?_; clear h K)
      first | (refine LeftL.tkG (v := ?_) 11 rfl HS.out ?_ ?_; rotate_left; · intro V hV; obtain ⟨z1, z2⟩ := HFX.out V hV; clear hV; go_simp; rfl) | refine LeftL.tkN 11 rfl HS.out ?_
      (intro K h; go_simp; refine h _ ?_; clear h K)
      first | (refine LeftL.tkG (v := ?_) 12 rfl HS.out ?_ ?_; rotate_left; · intro V hV; obtain ⟨z1, z2⟩ := HFX.out V hV; clear hV; go_simp; rfl) | refine LeftL.tkN 12 rfl HS.out ?_
      (intro K h; go_simp; refine h _ ?_; clear h K)
      first | (refine LeftL.tkG (v := ?_) 13 rfl HS.out ?_ ?_; rotate_left; · intro V hV; obtain ⟨z1, z2⟩ := HFX.out V hV; clear hV; go_simp; rfl) | refine LeftL.tkN 13 rfl HS.out ?_
      (intro K h; go_simp; refine h _ ?_; clear h K)
      refine LeftL.one 14 rfl (by kernel_rfl) ?_
      go_wp2_with fail
      refine (HRO.out _ HS.out).mono ?_; rintro e X2 ⟨rfl, hx2⟩
      have hS1 := HS.out.call hx2 HS.out.size (by simp)
      clear hx2 HS HRO
      obtain ⟨rb, hrb⟩ : ∃ r, r = rightOf L pa pb := ⟨_, rfl⟩
      rw [← hrb] at HCI2 ⊢
      clear hrb
      have HS := Lib.hid hS1
      clear hS1
      go_wp2_with fail
      first | refine ⟨fun _ => HS.out, ?_⟩ | refine ⟨HS.out, ?_⟩
      cases rb
      · have hcf : cornB L i = true := HCI2.out
        have hno2 : ∀ j, j < i + 1 → cornB L j = true := fun j hj => by
          rcases Nat.lt_or_ge j i with h | h
          · exact HNO.out j h
          · obtain rfl : j = i := by omega
            exact hcf
        clear hcf
        have HNO2 := Lib.hid hno2
        clear hno2
        first | (refine LeftL.tkG (v := ?_) 15 rfl HS.out ?_ ?_; rotate_left; · intro V hV; obtain ⟨z1, z2⟩ := HFX.out V hV; clear hV; go_simp; rfl) | refine LeftL.tkN 15 rfl HS.out ?_
        (intro K h; go_simp; refine h _ ?_; clear h K)
        refine LeftL.done (by kernel_rfl) ?_
        have hfr := HFR2.out.call HS.out HFR2.out.size (by simp)
        clear HS HFX HF HL5 HL6 HL7 HFR2 HFR
        have HFR := Lib.hid hfr
        clear hfr
        go_wp2_with fail
        (try simp only [y4, y5])
        exact ⟨⟨i + 1, by simp, HIN.out, HNO2.out, HFR.out⟩, HMS.out⟩
      · have hcf : cornB L i = false := HCI2.out
        have hb : areaB L = false := by
          rw [HA.out, List.all_eq_false]
          exact ⟨i, by have := HN.out; have := HIN.out; simp; omega, by simp [hcf]⟩
        clear hcf
        have HB := Lib.hid hb
        clear hb
        first | (refine LeftL.tkG (v := ?_) 15 rfl HS.out ?_ ?_; rotate_left; · intro V hV; obtain ⟨z1, z2⟩ := HFX.out V hV; clear hV; go_simp; rfl) | refine LeftL.tkN 15 rfl HS.out ?_
        (intro K h; go_simp; refine h _ ?_; clear h K)
        refine LeftL.done (by kernel_rfl) ?_
        have hf := HF.out.call HS.out HF.out.size (by simp)
        clear HS HFX HF HL5 HL6 HL7
        have HF := Lib.hid hf
        clear hf
        go_wp2_with fail
        go_ret
        exact ⟨by rw [HB.out]; rfl, HF.out⟩
end Go.Proofs.Ythgmdilfmeefiaa
