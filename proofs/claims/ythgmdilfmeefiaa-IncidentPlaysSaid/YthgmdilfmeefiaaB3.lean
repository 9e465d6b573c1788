/-
  Texts J8 of this claim, one behind the other.
-/
import Derived.Test.YthgmdilfmeefiaaB2
namespace Go.Proofs.Ythgmdilfmeefiaa
set_option linter.all false
set_option linter.unusedSimpArgs false
set_option linter.unusedVariables false
open Go.RowKit

theorem namedLL {P : Program} {l : List Oper} {Q : Exit → Act → World → Prop} {S : World → Prop} {t : Nat} {done : List Nat} {a : Act} {w : World} (h : ∀ W, W = w → LeftL P l Q S t done a W) : LeftL P l Q S t done a w := h w rfl
set_option maxRecDepth 100000 in
set_option maxHeartbeats 4000000 in
theorem refPlace_any (p : Spt) (w : World) : Calls Try.prog 89 #[.agg (spC p).toArray] w fun e w' => e = .returned (.bool (plcB p)) ∧ Frm w.heap.size [] w w' := by
  have hf0 := Try.func89
  obtain ⟨x, y⟩ := p
  show Calls Try.prog 89 #[.agg #[.int .i64 x, .int .i64 y]] w _
  have hd : plcB (x, y) = (inB x (-16777216) 16777216 && inB y (-16777216) 16777216) := rfl
  go_enter Try.func89, Try.ntmps89
  go_upto_region 1 with fail
  refine namedC ?_; intro W hW
  have k0 : Blk W w.heap.size 71 [.int .i64 x, .int .i64 y] := by rw [hW]; exact Blk.new w 71 [.int .i64 x, .int .i64 y]
  have hf : Frm w.heap.size [] w W := by rw [hW]; repeat (first | with_reducible exact Frm.refl _ _ _ | with_reducible refine Frm.drewN ?_ | with_reducible refine Frm.drew ?_ | ((with_reducible refine Frm.setCell' ?_ ?_); · first | (left; simp; done) | (right; simp; done) | (right; simp; omega)) | ((with_reducible refine Frm.alloc' ?_ ?_); · first | exact Nat.le_refl _ | (simp; done) | (simp; omega)))
  clear hW hf0
  have c0 : W.cell? ⟨w.heap.size, 0, none⟩ = some (.int .i64 x) := k0.cell 0
  have c1 : W.cell? ⟨w.heap.size, 1, none⟩ = some (.int .i64 y) := k0.cell 1
  clear k0
  have HF := Lib.hid hf
  have HD := Lib.hid hd
  clear hd hf
  go_wp2_with fail
  refine (refIn_any _ _ _ _).mono ?_; rintro e w' ⟨rfl, rfl⟩
  cases h1 : inB x (-16777216) 16777216
  · have H1 := Lib.hid h1
    clear h1
    go_wp2_with fail
    go_ret
    exact ⟨by rw [HD.out, H1.out]; rfl, HF.out⟩
  · have H1 := Lib.hid h1
    clear h1
    go_wp2_with fail
    refine (refIn_any _ _ _ _).mono ?_; rintro e w' ⟨rfl, rfl⟩
    obtain ⟨b2, hb2⟩ : ∃ b, b = inB y (-16777216) 16777216 := ⟨_, rfl⟩
    rw [← hb2]
    have HB2 := Lib.hid hb2
    clear hb2
    go_wp2_with fail
    go_ret
    exact ⟨by rw [HD.out, H1.out, ← HB2.out]; rfl, HF.out⟩
/-- What is added up, over the first k edges. -/
theorem areaZ_succ (l : List Spt) (k : Nat) : areaZ l (k + 1) = areaZ l k + (spt l k).1 * (spt l ((k + 1) % l.length)).2 - (spt l ((k + 1) % l.length)).1 * (spt l k).2 := by
  unfold areaZ
  simp only [sumZ, crossZ]
  omega
theorem all_pre {L : List Spt} {i : Nat} (h : ∀ j, j < i → plcB (spt L j) = true) (hi : i = L.length) : L.all plcB = true := by
  rw [List.all_eq_true]
  intro p hp
  obtain ⟨j, hj, rfl⟩ := List.getElem_of_mem hp
  have := h j (by omega)
  unfold spt at this
  simpa [List.getD_eq_getElem?_getD, hj] using this
theorem all_bad {L : List Spt} {i : Nat} (hi : i < L.length) (h : plcB (spt L i) = false) : L.all plcB = false := by
  rw [List.all_eq_false]
  exact ⟨spt L i, by unfold spt; simp [List.getD_eq_getElem?_getD, hi], by simp [h]⟩
theorem corn_no {L : List Spt} {i n : Nat} (hn : n = L.length) (h : turnZ (spt L i) (spt L ((i + 1) % n)) (spt L ((i + 2) % n)) ≤ 0) : cornB L i = false := by
  subst hn; unfold cornB; rw [decide_eq_false (by omega), Bool.false_and]
theorem corn_bad {L : List Spt} {i k n : Nat} (hn : n = L.length) (hk : k < n) (h : turnZ (spt L i) (spt L ((i + 1) % n)) (spt L k) < 0) : cornB L i = false := by
  subst hn; unfold cornB
  rw [Bool.and_eq_false_iff]
  right
  rw [List.all_eq_false]
  exact ⟨k, by simpa using hk, by simp; omega⟩
theorem corn_yes {L : List Spt} {i n : Nat} (hn : n = L.length) (h1 : 0 < turnZ (spt L i) (spt L ((i + 1) % n)) (spt L ((i + 2) % n))) (h2 : ∀ k, k < n → 0 ≤ turnZ (spt L i) (spt L ((i + 1) % n)) (spt L k)) : cornB L i = true := by
  subst hn; unfold cornB
  rw [Bool.and_eq_true, decide_eq_true_eq, List.all_eq_true]
  exact ⟨h1, fun k hk => by have := h2 k (by simpa using hk); simpa using this⟩
theorem area_bound {L : List Spt} {n : Nat} (hn : n = L.length) (hok : ∀ i, i < n → SpOK (spt L i)) : ∀ k, k ≤ n → -(562949953421312 * (k : Int)) ≤ areaZ L k ∧ areaZ L k ≤ 562949953421312 * (k : Int)
  | 0, _ => by simp [areaZ, sumZ]
  | k + 1, hk => by
    have ih := area_bound hn hok k (by omega)
    have h1 := hok k (by omega)
    have h2 := hok ((k + 1) % n) (Nat.mod_lt _ (by omega))
    have hs := areaZ_succ L k
    rw [← hn] at hs
    obtain ⟨pa, hpa⟩ : ∃ p, p = spt L k := ⟨_, rfl⟩
    obtain ⟨pb, hpb⟩ : ∃ p, p = spt L ((k + 1) % n) := ⟨_, rfl⟩
    rw [← hpa, ← hpb] at hs
    rw [← hpa] at h1
    rw [← hpb] at h2
    have m1 := mul_abs (a := pa.1) (b := pb.2) h1.1 h2.2 (by omega)
    have m2 := mul_abs (a := pb.1) (b := pa.2) h2.1 h1.2 (by omega)
    rw [hs]
    omega
set_option maxRecDepth 100000 in
set_option maxHeartbeats 16000000 in
theorem refArea_any (ad : Option Addr) (b off n cap : Nat) (L : List Spt) (hn : n = L.length) (w : World) (hr : RwP w ad b off n L) :
    Calls Try.prog 60 #[.slice ad n cap] w fun e w' => e = .returned (.bool (areaB L)) ∧ Frm w.heap.size [] w w' := by
  have hf0 := Try.func60
  have hlen := hr.len
  have HR := Lib.hid hr
  have HN := Lib.hid hn
  clear hn hr
  go_enter Try.func60, Try.ntmps60
  go_wp2_with fail
  refine (refIn_any _ _ _ _).mono ?_; rintro e w' ⟨rfl, rfl⟩
  cases h1 : inB (n : Int) 1 12
  · have ha := area_n HN.out h1
    have H1 := Lib.hid h1
    have HA := Lib.hid ha
    clear ha h1
    go_wp2_with fail
    go_ret
    exact ⟨by rw [HA.out]; rfl, Frm.refl _ _ _⟩
  have h12 := inB_iff.1 h1
  have had := HR.out.ad (by omega)
  subst had
  have H1 := Lib.hid h1
  clear h1
  go_wp2_with fail
  go_loopw [4] (fun s4 wr => ∃ i : Nat, s4 = .int .i64 i ∧ i ≤ n ∧ (∀ j, j < i → plcB (spt L j) = true) ∧ Frm w.heap.size [] w wr) (fun s4 _ => n - (intOf s4).toNat)
  case atStart => exact ⟨0, rfl, Nat.zero_le _, fun j hj => absurd hj (by omega), Frm.refl _ _ _⟩
  case round =>
    obtain ⟨i, rfl, hi, hno, hfr⟩ := hrel
    by_cases hin : i < n
    · have hin' : (i : Int) < (n : Int) := by omega
      obtain ⟨y4, y5⟩ := wrapUp hin hlen
      have hms := meas_up hin
      obtain ⟨p, hp⟩ : ∃ p, p = spt L i := ⟨_, rfl⟩
      have hla : (loadVar 71 ⟨b, off + i * 2, none⟩).run Try.prog wr = .ok (.agg (spC p).toArray) wr := by rw [hp]; exact (HR.out.frm hfr (Nat.le_refl _)).load (P := Try.prog) Try.underlying71 rfl hin (info71s _)
      have HP := Lib.hid hp
      have HFR := Lib.hid hfr
      have HNO := Lib.hid hno
      have HIN := Lib.hid hin
      have HMS := Lib.hid hms
      have HLA := Lib.hid hla
      clear hla hms hin hno hfr hp
      go_wp2_with (with_reducible refine atLoad 71 rfl ?_; refine wpList_loadE rfl rfl rfl HLA.out ?_)
      refine (refPlace_any p wr).mono ?_; rintro e w2 ⟨rfl, hf2⟩
      have hfr := HFR.out.call hf2 HFR.out.size (by simp)
      clear hf2 HFR HLA
      cases hpl : plcB p
      · have hb : areaB L = false := area_p (all_bad (i := i) (by rw [← HN.out]; exact HIN.out) (by rw [← HP.out]; exact hpl))
        clear hpl
        have HFR := Lib.hid hfr
        have HB := Lib.hid hb
        clear hb hfr
        go_wp2_with fail
        go_ret
        exact ⟨by rw [HB.out]; rfl, HFR.out⟩
      · have hno2 : ∀ j, j < i + 1 → plcB (spt L j) = true := fun j hj => by
          rcases Nat.lt_or_ge j i with h | h
          · exact HNO.out j h
          · obtain rfl : j = i := by omega
            rw [← HP.out]; exact hpl
        clear hpl
        have HFR := Lib.hid hfr
        have HNO2 := Lib.hid hno2
        clear hno2 hfr
        go_wp2_with fail
        (try simp only [y4, y5])
        exact ⟨⟨i + 1, by simp, HIN.out, HNO2.out, HFR.out⟩, HMS.out⟩
    have hin' : ¬ (i : Int) < (n : Int) := by omega
    obtain rfl : n = i := by omega
    have h2 : L.all plcB = true := all_pre hno HN.out
    obtain ⟨w1, hw1⟩ : ∃ V, V = wr := ⟨_, rfl⟩
    rw [← hw1] at hfr ⊢
    clear hno hw1
    by_cases h3 : n < 3
    · have h3' : (n : Int) ≤ 2 := by omega
      have ha := area_12 (by rw [← HN.out]; exact H1.out) h2 (by have := HN.out; omega)
      rw [← HN.out] at ha
      by_cases hn1 : n = 1
      · subst hn1
        rw [decide_eq_true rfl, Bool.true_or] at ha
        have hfx : ∀ V, Frm w1.heap.size [] w1 V → True ∧ True := fun _ _ => ⟨trivial, trivial⟩
        clear h12 h3 h3' hlen
        have H2 := Lib.hid h2
        have HA := Lib.hid ha
        have HF1 := Lib.hid hfr
        have HFX := Lib.hid hfx
        clear hfx hfr ha h2
        go_upto_region 10 with fail
        refine wp_region_leftL (fun V => Frm w1.heap.size [] w1 V) 1000 (by kernel_rfl) ?_
        have hS : Frm w1.heap.size [] w1 w1.drew := (Frm.refl _ _ w1).drew
        have HS := Lib.hid hS
        clear hS
        first | (refine LeftL.tkG (v := ?_) 0 rfl HS.out ?_ ?_; rotate_left; · intro V hV; obtain ⟨q1, q2⟩ := HFX.out V hV; clear hV; go_simp; rfl) | refine LeftL.tkN 0 rfl HS.out ?_
        (intro K h; go_simp; refine h _ ?_; clear h K)
        first | (refine LeftL.tkG (v := ?_) 1 rfl HS.out ?_ ?_; rotate_left; · intro V hV; obtain ⟨q1, q2⟩ := HFX.out V hV; clear hV; go_simp; rfl) | refine LeftL.tkN 1 rfl HS.out ?_
        (intro K h; go_simp; refine h _ ?_; clear h K)
        first | (refine LeftL.tkG (v := ?_) 2 rfl HS.out ?_ ?_; rotate_left; · intro V hV; obtain ⟨q1, q2⟩ := HFX.out V hV; clear hV; go_simp; rfl) | refine LeftL.tkN 2 rfl HS.out ?_
        (intro K h; go_simp; refine h _ ?_; clear h K)
        first | (refine LeftL.tkG (v := ?_) 3 rfl HS.out ?_ ?_; rotate_left; · intro V hV; obtain ⟨q1, q2⟩ := HFX.out V hV; clear hV; go_simp; rfl) | refine LeftL.tkN 3 rfl HS.out ?_
        (intro K h; go_simp; refine h _ ?_; clear h K)
        first | (refine LeftL.tkG (v := ?_) 4 rfl HS.out ?_ ?_; rotate_left; · intro V hV; obtain ⟨q1, q2⟩ := HFX.out V hV; clear hV; go_simp; rfl) | refine LeftL.tkN 4 rfl HS.out ?_
        (intro K h; go_simp; refine h _ ?_; clear h K)
        first | (refine LeftL.tkG (v := ?_) 5 rfl HS.out ?_ ?_; rotate_left; · intro V hV; obtain ⟨q1, q2⟩ := HFX.out V hV; clear hV; go_simp; rfl) | refine LeftL.tkN 5 rfl HS.out ?_
        (intro K h; go_simp; refine h _ ?_; clear h K)
        first | (refine LeftL.tkG (v := ?_) 6 rfl HS.out ?_ ?_; rotate_left; · intro V hV; obtain ⟨q1, q2⟩ := HFX.out V hV; clear hV; go_simp; rfl) | refine LeftL.tkN 6 rfl HS.out ?_
        (intro K h; go_simp; refine h _ ?_; clear h K)
        first | (refine LeftL.tkG (v := ?_) 7 rfl HS.out ?_ ?_; rotate_left; · intro V hV; obtain ⟨q1, q2⟩ := HFX.out V hV; clear hV; go_simp; rfl) | refine LeftL.tkN 7 rfl HS.out ?_
        (intro K h; go_simp; refine h _ ?_; clear h K)
        first | (refine LeftL.tkG (v := ?_) 8 rfl HS.out ?_ ?_; rotate_left; · intro V hV; obtain ⟨q1, q2⟩ := HFX.out V hV; clear hV; go_simp; rfl) | refine LeftL.tkN 8 rfl HS.out ?_
        (intro K h; go_simp; refine h _ ?_; clear h K)
        first | (refine LeftL.tkG (v := ?_) 9 rfl HS.out ?_ ?_; rotate_left; · intro V hV; obtain ⟨q1, q2⟩ := HFX.out V hV; clear hV; go_simp; rfl) | refine LeftL.tkN 9 rfl HS.out ?_
        (intro K h; go_simp; refine h _ ?_; clear h K)
        first | (refine LeftL.tkG (v := ?_) 10 rfl HS.out ?_ ?_; rotate_left; · intro V hV; obtain ⟨q1, q2⟩ := HFX.out V hV; clear hV; go_simp; rfl) | refine LeftL.tkN 10 rfl HS.out ?_
        (intro K h; go_simp; refine h _ ?_; clear h K)
        refine LeftL.one 11 rfl (by kernel_rfl) ?_
        go_wp2_with fail
        first | refine ⟨fun _ => HS.out, ?_⟩ | refine ⟨HS.out, ?_⟩
        refine LeftL.done (by kernel_rfl) ?_
        have hf := HF1.out.call HS.out HF1.out.size (by simp)
        clear HS HFX
        have HF := Lib.hid hf
        clear hf
        go_wp2_with fail
        go_ret
        exact ⟨by rw [HA.out]; rfl, HF.out⟩
      · obtain rfl : n = 2 := by omega
        rw [decide_eq_false hn1, Bool.false_or] at ha
        obtain ⟨x, hx⟩ : ∃ x, x = spt L 0 := ⟨_, rfl⟩
        obtain ⟨y, hy⟩ : ∃ x, x = spt L 1 := ⟨_, rfl⟩
        rw [← hx, ← hy] at ha
        obtain ⟨x0, x1⟩ := x
        obtain ⟨y0, y1⟩ := y
        have hl0 : ∀ V, Frm w1.heap.size [] w1 V → (loadVar 71 ⟨b, off, none⟩).run Try.prog V = .ok (.agg #[.int .i64 x0, .int .i64 x1]) V := fun V hV => by
          have := (HR.out.frm (hfr.call hV hfr.size (by simp)) (Nat.le_refl _)).load (P := Try.prog) Try.underlying71 rfl (i := 0) (by omega) (info71s _)
          rw [Nat.zero_mul, Nat.add_zero] at this
          rw [← hx] at this; exact this
        have hl1 : ∀ V, Frm w1.heap.size [] w1 V → (loadVar 71 ⟨b, off + 2, none⟩).run Try.prog V = .ok (.agg #[.int .i64 y0, .int .i64 y1]) V := fun V hV => by
          have := (HR.out.frm (hfr.call hV hfr.size (by simp)) (Nat.le_refl _)).load (P := Try.prog) Try.underlying71 rfl (i := 1) (by omega) (info71s _)
          rw [Nat.one_mul] at this
          rw [← hy] at this; exact this
        have hfx : ∀ V, Frm w1.heap.size [] w1 V → True ∧ True := fun _ _ => ⟨trivial, trivial⟩
        clear hx hy h12 h3 h3' hn1 hlen
        have H2 := Lib.hid h2
        have HA := Lib.hid ha
        have HF1 := Lib.hid hfr
        have HL0 := Lib.hid hl0
        have HL1 := Lib.hid hl1
        have HFX := Lib.hid hfx
        clear hfx hl1 hl0 hfr ha h2
        go_upto_region 10 with fail
        refine wp_region_leftL (fun V => Frm w1.heap.size [] w1 V) 1000 (by kernel_rfl) ?_
        have hS : Frm w1.heap.size [] w1 w1.drew := (Frm.refl _ _ w1).drew
        have HS := Lib.hid hS
        clear hS
        first | (refine LeftL.tkG (v := ?_) 0 rfl HS.out ?_ ?_; rotate_left; · intro V hV; obtain ⟨q1, q2⟩ := HFX.out V hV; clear hV; go_simp; rfl) | refine LeftL.tkN 0 rfl HS.out ?_
        (intro K h; go_simp; refine h _ ?_; clear h K)
        first | (refine LeftL.tkG (v := ?_) 1 rfl HS.out ?_ ?_; rotate_left; · intro V hV; obtain ⟨q1, q2⟩ := HFX.out V hV; clear hV; go_simp; rfl) | refine LeftL.tkN 1 rfl HS.out ?_
        (intro K h; go_simp; refine h _ ?_; clear h K)
        first | (refine LeftL.tkG (v := ?_) 2 rfl HS.out ?_ ?_; rotate_left; · intro V hV; obtain ⟨q1, q2⟩ := HFX.out V hV; clear hV; go_simp; rfl) | refine LeftL.tkN 2 rfl HS.out ?_
        (intro K h; go_simp; refine h _ ?_; clear h K)
        first | (refine LeftL.tkG (v := ?_) 3 rfl HS.out ?_ ?_; rotate_left; · intro V hV; obtain ⟨q1, q2⟩ := HFX.out V hV; clear hV; go_simp; rfl) | refine LeftL.tkN 3 rfl HS.out ?_
        (intro K h; go_simp; refine h _ ?_; clear h K)
        first | (refine LeftL.tkG (v := ?_) 4 rfl HS.out ?_ ?_; rotate_left; · intro V hV; obtain ⟨q1, q2⟩ := HFX.out V hV; clear hV; go_simp; rfl) | refine LeftL.tkN 4 rfl HS.out ?_
        (intro K h; go_simp; refine h _ ?_; clear h K)
        refine LeftL.take 5 rfl (by kernel_rfl) (fun _ _ d _ _ h => by cases d <;> exact h) (yields_loadG (ty := 71) rfl rfl rfl (HL0.out)) HS.out ?_; (intro K' hK'; go_simp; refine hK' _ ?_; clear hK' K')
        first | (refine LeftL.tkG (v := ?_) 6 rfl HS.out ?_ ?_; rotate_left; · intro V hV; obtain ⟨q1, q2⟩ := HFX.out V hV; clear hV; go_simp; rfl) | refine LeftL.tkN 6 rfl HS.out ?_
        (intro K h; go_simp; refine h _ ?_; clear h K)
        first | (refine LeftL.tkG (v := ?_) 7 rfl HS.out ?_ ?_; rotate_left; · intro V hV; obtain ⟨q1, q2⟩ := HFX.out V hV; clear hV; go_simp; rfl) | refine LeftL.tkN 7 rfl HS.out ?_
        (intro K h; go_simp; refine h _ ?_; clear h K)
        refine LeftL.take 8 rfl (by kernel_rfl) (fun _ _ d _ _ h => by cases d <;> exact h) (yields_loadG (ty := 71) rfl rfl rfl (HL1.out)) HS.out ?_; (intro K' hK'; go_simp; refine hK' _ ?_; clear hK' K')
        by_cases e0 : x0 = y0
        · by_cases e1 : x1 = y1
          · subst e0
            subst e1
            have hb : areaB L = false := by rw [HA.out]; simp
            have HB := Lib.hid hb
            clear hb
            first | (refine LeftL.tkG (v := ?_) 9 rfl HS.out ?_ ?_; rotate_left; · intro V hV; obtain ⟨q1, q2⟩ := HFX.out V hV; clear hV; go_simp; rfl) | refine LeftL.tkN 9 rfl HS.out ?_
            (intro K h; go_simp; refine h _ ?_; clear h K)
            first | (refine LeftL.tkG (v := ?_) 10 rfl HS.out ?_ ?_; rotate_left; · intro V hV; obtain ⟨q1, q2⟩ := HFX.out V hV; clear hV; go_simp; rfl) | refine LeftL.tkN 10 rfl HS.out ?_
            (intro K h; go_simp; refine h _ ?_; clear h K)
            refine LeftL.one 11 rfl (by kernel_rfl) ?_
            go_wp2_with fail
            first | refine ⟨fun _ => HS.out, ?_⟩ | refine ⟨HS.out, ?_⟩
            refine LeftL.done (by kernel_rfl) ?_
            have hf := HF1.out.call HS.out HF1.out.size (by simp)
            clear HS HFX
            have HF := Lib.hid hf
            clear hf
            go_wp2_with fail
            go_ret
            exact ⟨by rw [HB.out]; rfl, HF.out⟩
          · have hb : areaB L = true := by rw [HA.out]; simp [e1]
            have e2 : (x1 == y1) = false := by simp [e1]
            subst e0
            have HB := Lib.hid hb
            clear hb
            first | (refine LeftL.tkG (v := ?_) 9 rfl HS.out ?_ ?_; rotate_left; · intro V hV; obtain ⟨q1, q2⟩ := HFX.out V hV; clear hV; go_simp; rfl) | refine LeftL.tkN 9 rfl HS.out ?_
            (intro K h; go_simp; refine h _ ?_; clear h K)
            first | (refine LeftL.tkG (v := ?_) 10 rfl HS.out ?_ ?_; rotate_left; · intro V hV; obtain ⟨q1, q2⟩ := HFX.out V hV; clear hV; go_simp; rfl) | refine LeftL.tkN 10 rfl HS.out ?_
            (intro K h; go_simp; refine h _ ?_; clear h K)
            refine LeftL.one 11 rfl (by kernel_rfl) ?_
            go_wp2_with fail
            first | refine ⟨fun _ => HS.out, ?_⟩ | refine ⟨HS.out, ?_⟩
            refine LeftL.done (by kernel_rfl) ?_
            have hf := HF1.out.call HS.out HF1.out.size (by simp)
            clear HS HFX
            have HF := Lib.hid hf
            clear hf
            go_wp2_with fail
            go_ret
            exact ⟨by rw [HB.out]; rfl, HF.out⟩
        · have hb : areaB L = true := by rw [HA.out]; simp [e0]
          have e2 : (x0 == y0) = false := by simp [e0]
          have HB := Lib.hid hb
          clear hb
          first | (refine LeftL.tkG (v := ?_) 9 rfl HS.out ?_ ?_; rotate_left; · intro V hV; obtain ⟨q1, q2⟩ := HFX.out V hV; clear hV; go_simp; rfl) | refine LeftL.tkN 9 rfl HS.out ?_
          (intro K h; go_simp; refine h _ ?_; clear h K)
          first | (refine LeftL.tkG (v := ?_) 10 rfl HS.out ?_ ?_; rotate_left; · intro V hV; obtain ⟨q1, q2⟩ := HFX.out V hV; clear hV; go_simp; rfl) | refine LeftL.tkN 10 rfl HS.out ?_
          (intro K h; go_simp; refine h _ ?_; clear h K)
          refine LeftL.one 11 rfl (by kernel_rfl) ?_
          go_wp2_with fail
          first | refine ⟨fun _ => HS.out, ?_⟩ | refine ⟨HS.out, ?_⟩
          refine LeftL.done (by kernel_rfl) ?_
          have hf := HF1.out.call HS.out HF1.out.size (by simp)
          clear HS HFX
          have HF := Lib.hid hf
          clear hf
          go_wp2_with fail
          go_ret
          exact ⟨by rw [HB.out]; rfl, HF.out⟩
    have h3' : ¬ (n : Int) ≤ 2 := by omega
    have ha := area_3 (by rw [← HN.out]; exact H1.out) h2 (by have := HN.out; omega)
    have hok : ∀ i, i < n → SpOK (spt L i) := fun i hi => spt_ok h2 (by have := HN.out; omega)
    have hbd : ∀ k, k ≤ n → -(13510798882111488 : Int) ≤ areaZ L k ∧ areaZ L k ≤ 13510798882111488 := fun k hk => by
      have h := area_bound (L := L) (n := n) HN.out hok k hk
      omega
    have H2 := Lib.hid h2
    have HA := Lib.hid ha
    have HF1 := Lib.hid hfr
    have HOK := Lib.hid hok
    have HBD := Lib.hid hbd
    clear hbd hok hfr ha h2
    go_wp2_with fail
    go_loopw [5, 6] (fun s5 s6 wr => ∃ i : Nat, s6 = .int .i64 i ∧ i ≤ n ∧ s5 = .int .i64 (areaZ L i) ∧ (∀ j, j < i → cornB L j = true) ∧ Frm w1.heap.size [] w1 wr) (fun _ s6 _ => n - (intOf s6).toNat)
    case atStart => exact ⟨0, rfl, Nat.zero_le _, rfl, fun j hj => absurd hj (by omega), Frm.refl _ _ _⟩
    case round =>
      obtain ⟨i, rfl, hi, rfl, hno, hfr⟩ := hrel
      by_cases hin : i < n
      rotate_left
      · have hin' : ¬ (i : Int) < (n : Int) := by omega
        obtain rfl : i = n := by omega
        have hall : (List.range L.length).all (cornB L) = true := by
          rw [List.all_eq_true]
          intro x hx
          exact hno x (by have h5 := HN.out; rw [h5]; simpa using hx)
        have hb : areaB L = true := by rw [HA.out]; exact hall
        have hpos : 0 < areaZ L i := by have h5 := HN.out; rw [h5]; exact area_sum (by omega) hall
        obtain ⟨z, hz⟩ : ∃ z, z = areaZ L i := ⟨_, rfl⟩
        rw [← hz] at hpos ⊢
        have hf := HF1.out.call hfr HF1.out.size (by simp)
        have hd : decide (0 < z) = true := decide_eq_true hpos
        clear hno hfr hall hz
        have HB := Lib.hid hb
        have HF := Lib.hid hf
        clear hf hb
        go_wp2_with fail
        go_ret
        exact ⟨by rw [HB.out]; rfl, HF.out⟩
      have hin' : (i : Int) < (n : Int) := by omega
      obtain ⟨y4, y5⟩ := wrapUp hin hlen
      have hms := meas_up hin
      have hn0 : ¬ (n : Int) = 0 := by omega
      have hnn : ¬ n = 0 := by omega
      have q1 : (i + 1) % n < n := Nat.mod_lt _ (by omega)
      have q2 : (i + 2) % n < n := Nat.mod_lt _ (by omega)
      have oka := HOK.out i hin
      have okb := HOK.out _ q1
      have okc := HOK.out _ q2
      have hzi := HBD.out i (by omega)
      have hzj := HBD.out (i + 1) hin
      have hzs := areaZ_succ L i
      rw [← HN.out] at hzs
      have hrr := HR.out.frm (HF1.out.call hfr HF1.out.size (by simp)) (Nat.le_refl _)
      have cn := corn_no (L := L) (i := i) HN.out
      have cb := fun k => corn_bad (L := L) (i := i) (k := k) HN.out
      have cy := corn_yes (L := L) (i := i) HN.out
      obtain ⟨pa, hpa⟩ : ∃ p, p = spt L i := ⟨_, rfl⟩
      obtain ⟨pb, hpb⟩ : ∃ p, p = spt L ((i + 1) % n) := ⟨_, rfl⟩
      obtain ⟨pc, hpc⟩ : ∃ p, p = spt L ((i + 2) % n) := ⟨_, rfl⟩
      rw [← hpa, ← hpb, ← hpc] at cn cy
      rw [← hpa, ← hpb] at cb hzs
      rw [← hpa] at oka
      rw [← hpb] at okb
      rw [← hpc] at okc
      have hla : ∀ V, Frm wr.heap.size [] wr V → (loadVar 71 ⟨b, off + i * 2, none⟩).run Try.prog V = .ok (.agg (spC pa).toArray) V := fun V hV => by rw [hpa]; exact (hrr.frm hV (Nat.le_refl _)).load (P := Try.prog) Try.underlying71 rfl hin (info71s _)
      have hlb : ∀ V, Frm wr.heap.size [] wr V → (loadVar 71 ⟨b, off + (i + 1) % n * 2, none⟩).run Try.prog V = .ok (.agg (spC pb).toArray) V := fun V hV => by rw [hpb]; exact (hrr.frm hV (Nat.le_refl _)).load (P := Try.prog) Try.underlying71 rfl q1 (info71s _)
      have hlc : ∀ V, Frm wr.heap.size [] wr V → (loadVar 71 ⟨b, off + (i + 2) % n * 2, none⟩).run Try.prog V = .ok (.agg (spC pc).toArray) V := fun V hV => by rw [hpc]; exact (hrr.frm hV (Nat.le_refl _)).load (P := Try.prog) Try.underlying71 rfl q2 (info71s _)
      have g2 : IntKind.i64.wrap ((i : Int) + 2) = (i : Int) + 2 := IntWalk.i64_in _ (by omega)
      have q2n : ((i : Int) + 2) % (n : Int) = (((i + 2) % n : Nat) : Int) := rfl
      have q2e : ((i : Int) + 2) % (n : Int) < (n : Int) := by rw [q2n]; omega
      have q2z : (0 : Int) ≤ ((i : Int) + 2) % (n : Int) := by rw [q2n]; omega
      have q2y : ¬ ((i : Int) + 2) % (n : Int) < 0 := by rw [q2n]; omega
      have q2t : (((i : Int) + 2) % (n : Int)).toNat = (i + 2) % n := by rw [q2n]; omega
      have t2 : Int.tmod ((i : Int) + 2) (n : Int) = (((i + 2) % n : Nat) : Int) := by have := mod_nat (i + 2) n; rw [← this]; rfl
      have w2i : IntKind.i64.wrap (((i + 2) % n : Nat) : Int) = (((i + 2) % n : Nat) : Int) := IntWalk.i64_in _ (by omega)
      have q1n : ((i : Int) + 1) % (n : Int) = (((i + 1) % n : Nat) : Int) := rfl
      have q1e : ((i : Int) + 1) % (n : Int) < (n : Int) := by rw [q1n]; omega
      have q1z : (0 : Int) ≤ ((i : Int) + 1) % (n : Int) := by rw [q1n]; omega
      have q1y : ¬ ((i : Int) + 1) % (n : Int) < 0 := by rw [q1n]; omega
      have q1t : (((i : Int) + 1) % (n : Int)).toNat = (i + 1) % n := by rw [q1n]; omega
      have t1 : Int.tmod ((i : Int) + 1) (n : Int) = (((i + 1) % n : Nat) : Int) := by have := mod_nat (i + 1) n; rw [← this]; rfl
      have w1i : IntKind.i64.wrap (((i + 1) % n : Nat) : Int) = (((i + 1) % n : Nat) : Int) := IntWalk.i64_in _ (by omega)
      clear q2n q1n
      obtain ⟨W5, hW5⟩ : ∃ V, V = wr := ⟨_, rfl⟩
      rw [← hW5] at hla hlb hlc hfr hrr ⊢
      have hfx : ∀ V, Frm W5.heap.size [] W5 V → True ∧ True := fun _ _ => ⟨trivial, trivial⟩
      clear hrr hpa hpb hpc hW5
      have HFR := Lib.hid hfr
      have HNO := Lib.hid hno
      have HIN := Lib.hid hin
      have HMS := Lib.hid hms
      have OKA := Lib.hid oka
      have OKB := Lib.hid okb
      have OKC := Lib.hid okc
      have HLA := Lib.hid hla
      have HLB := Lib.hid hlb
      have HLC := Lib.hid hlc
      have CN := Lib.hid cn
      have CB := Lib.hid cb
      have CY := Lib.hid cy
      have HZI := Lib.hid hzi
      have HZJ := Lib.hid hzj
      have HZS := Lib.hid hzs
      have HFX := Lib.hid hfx
      clear hfx hzs hzj hzi cy cb cn hlc hlb hla okc okb oka hms hin hno hfr
      go_upto_region 15 with fail
      go_cut [7, 8, 9] from 43 to 63 (fun s7 s8 s9 w' => ∃ p7 p8 p9, s7 = .pointer (some ⟨p7, 0, none⟩) ∧ s8 = .pointer (some ⟨p8, 0, none⟩) ∧ s9 = .pointer (some ⟨p9, 0, none⟩) ∧ Blk w' p7 71 (spC pa) ∧ Blk w' p8 71 (spC pb) ∧ Blk w' p9 71 (spC pc) ∧ Frm W5.heap.size [] W5 w')
      case first =>
        refine wp_region_leftL (fun V => Frm W5.heap.size [] W5 V) 23 (by kernel_rfl) ?_
        have hS : Frm W5.heap.size [] W5 W5.drew := (Frm.refl _ _ W5).drew
        have HS := Lib.hid hS
        clear hS
        first | (refine LeftL.tkG (v := ?_) 0 rfl HS.out ?_ ?_; rotate_left; · intro V hV; obtain ⟨z1, z2⟩ := HFX.out V hV; clear hV; go_simp; rfl) | refine LeftL.tkN 0 rfl HS.out ?_
        (intro K h; go_simp; refine h _ ?_; clear h K)
        first | (refine LeftL.tkG (v := ?_) 1 rfl HS.out ?_ ?_; rotate_left; · intro V hV; obtain ⟨z1, z2⟩ := HFX.out V hV; clear hV; go_simp; rfl) | refine LeftL.tkN 1 rfl HS.out ?_
        (intro K h; go_simp; refine h _ ?_; clear h K)
        first | (refine LeftL.tkG (v := ?_) 2 rfl HS.out ?_ ?_; rotate_left; · intro V hV; obtain ⟨z1, z2⟩ := HFX.out V hV; clear hV; go_simp; rfl) | refine LeftL.tkN 2 rfl HS.out ?_
        (intro K h; go_simp; refine h _ ?_; clear h K)
        refine LeftL.take 3 rfl (by kernel_rfl) (fun _ _ d _ _ h => by cases d <;> exact h) (yields_loadE (ty := 71) rfl rfl rfl (HLA.out)) HS.out ?_; (intro K' hK'; go_simp; refine hK' _ ?_; clear hK' K')
        first | (refine LeftL.tkG (v := ?_) 4 rfl HS.out ?_ ?_; rotate_left; · intro V hV; obtain ⟨z1, z2⟩ := HFX.out V hV; clear hV; go_simp; rfl) | refine LeftL.tkN 4 rfl HS.out ?_
        (intro K h; go_simp; refine h _ ?_; clear h K)
        first | (refine LeftL.tkG (v := ?_) 5 rfl HS.out ?_ ?_; rotate_left; · intro V hV; obtain ⟨z1, z2⟩ := HFX.out V hV; clear hV; go_simp; rfl) | refine LeftL.tkN 5 rfl HS.out ?_
        (intro K h; go_simp; refine h _ ?_; clear h K)
        first | (refine LeftL.tkG (v := ?_) 6 rfl HS.out ?_ ?_; rotate_left; · intro V hV; obtain ⟨z1, z2⟩ := HFX.out V hV; clear hV; go_simp; rfl) | refine LeftL.tkN 6 rfl HS.out ?_
        (intro K h; go_simp; refine h _ ?_; clear h K)
        first | (refine LeftL.tkG (v := ?_) 7 rfl HS.out ?_ ?_; rotate_left; · intro V hV; obtain ⟨z1, z2⟩ := HFX.out V hV; clear hV; go_simp; rfl) | refine LeftL.tkN 7 rfl HS.out ?_
        (intro K h; go_simp; refine h _ ?_; clear h K)
        first | (refine LeftL.tkG (v := ?_) 8 rfl HS.out ?_ ?_; rotate_left; · intro V hV; obtain ⟨z1, z2⟩ := HFX.out V hV; clear hV; go_simp; rfl) | refine LeftL.tkN 8 rfl HS.out ?_
        (intro K h; go_simp; refine h _ ?_; clear h K)
        first | (refine LeftL.tkG (v := ?_) 9 rfl HS.out ?_ ?_; rotate_left; · intro V hV; obtain ⟨z1, z2⟩ := HFX.out V hV; clear hV; go_simp; rfl) | refine LeftL.tkN 9 rfl HS.out ?_
        (intro K h; go_simp; refine h _ ?_; clear h K)
        refine LeftL.take 10 rfl (by kernel_rfl) (fun _ _ d _ _ h => by cases d <;> exact h) (yields_loadE (ty := 71) rfl rfl rfl (HLB.out)) HS.out ?_; (intro K' hK'; go_simp; refine hK' _ ?_; clear hK' K')
        first | (refine LeftL.tkG (v := ?_) 11 rfl HS.out ?_ ?_; rotate_left; · intro V hV; obtain ⟨z1, z2⟩ := HFX.out V hV; clear hV; go_simp; rfl) | refine LeftL.tkN 11 rfl HS.out ?_
        (intro K h; go_simp; refine h _ ?_; clear h K)
        first | (refine LeftL.tkG (v := ?_) 12 rfl HS.out ?_ ?_; rotate_left; · intro V hV; obtain ⟨z1, z2⟩ := HFX.out V hV; clear hV; go_simp; rfl) | refine LeftL.tkN 12 rfl HS.out ?_
        (intro K h; go_simp; refine h _ ?_; clear h K)
        first | (refine LeftL.tkG (v := ?_) 13 rfl HS.out ?_ ?_; rotate_left; · intro V hV; obtain ⟨z1, z2⟩ := HFX.out V hV; clear hV; go_simp; rfl) | refine LeftL.tkN 13 rfl HS.out ?_
        (intro K h; go_simp; refine h _ ?_; clear h K)
        first | (refine LeftL.tkG (v := ?_) 14 rfl HS.out ?_ ?_; rotate_left; · intro V hV; obtain ⟨z1, z2⟩ := HFX.out V hV; clear hV; go_simp; rfl) | refine LeftL.tkN 14 rfl HS.out ?_
        (intro K h; go_simp; refine h _ ?_; clear h K)
        first | (refine LeftL.tkG (v := ?_) 15 rfl HS.out ?_ ?_; rotate_left; · intro V hV; obtain ⟨z1, z2⟩ := HFX.out V hV; clear hV; go_simp; rfl) | refine LeftL.tkN 15 rfl HS.out ?_
        (intro K h; go_simp; refine h _ ?_; clear h K)
        first | (refine LeftL.tkG (v := ?_) 16 rfl HS.out ?_ ?_; rotate_left; · intro V hV; obtain ⟨z1, z2⟩ := HFX.out V hV; clear hV; go_simp; rfl) | refine LeftL.tkN 16 rfl HS.out ?_
        (intro K h; go_simp; refine h _ ?_; clear h K)
        refine LeftL.take 17 rfl (by kernel_rfl) (fun _ _ d _ _ h => by cases d <;> exact h) (yields_loadE (ty := 71) rfl rfl rfl (HLC.out)) HS.out ?_; (intro K' hK'; go_simp; refine hK' _ ?_; clear hK' K')
        refine LeftL.three 18 19 20 rfl rfl rfl (by kernel_rfl) ?_ ?_ ?_
        · go_wp2_with fail
          refine ⟨((Frm.refl _ _ W5).alloc (Nat.le_refl _) _).drew, ?_⟩
          refine namedLL ?_; intro U1 hU
          have k7 : Blk U1 W5.heap.size 71 [.int .i64 0, .int .i64 0] := by rw [hU]; exact (Blk.new' _ 71 [.int .i64 0, .int .i64 0] rfl).drew
          have hS1 : Frm W5.heap.size [] W5 U1 := by rw [hU]; exact ((Frm.refl _ _ W5).alloc (Nat.le_refl _) _).drew
          have l7 : W5.heap.size ≤ W5.heap.size := Nat.le_refl _
          clear hU HS 
          have HS := Lib.hid hS1
          have K7 := Lib.hid k7
          have L7 := Lib.hid l7
          clear l7 k7 hS1
          refine LeftL.two 19 20 rfl rfl (by kernel_rfl) ?_ ?_
          · go_wp2_with fail
            refine ⟨fun _ => HS.out.alloc HS.out.size _, ?_⟩
            refine namedLL ?_; intro U2 hU
            have k8 : Blk U2 U1.heap.size 71 [.int .i64 0, .int .i64 0] := by rw [hU]; exact (Blk.new' _ 71 [.int .i64 0, .int .i64 0] rfl)
            have k7 : Blk U2 W5.heap.size 71 [.int .i64 0, .int .i64 0] := by rw [hU]; exact K7.out.alloc _
            have hS1 : Frm W5.heap.size [] W5 U2 := by rw [hU]; exact HS.out.alloc HS.out.size _
            have l8 : W5.heap.size ≤ U1.heap.size := HS.out.size
            have n78 : W5.heap.size ≠ U1.heap.size := by have := K7.out.lt; omega
            obtain ⟨p8, hp⟩ : ∃ p, p = U1.heap.size := ⟨_, rfl⟩
            rw [← hp] at k8 l8 n78 ⊢
            clear hU HS K7 hp
            have HS := Lib.hid hS1
            have K8 := Lib.hid k8
            have L8 := Lib.hid l8
            have K7 := Lib.hid k7
            have N78 := Lib.hid n78
            clear n78 k7 l8 k8 hS1
            refine LeftL.one 20 rfl (by kernel_rfl) ?_
            go_wp2_with fail
            refine ⟨fun _ => HS.out.alloc HS.out.size _, ?_⟩
            refine namedLL ?_; intro U3 hU
            have k9 : Blk U3 U2.heap.size 71 [.int .i64 0, .int .i64 0] := by rw [hU]; exact (Blk.new' _ 71 [.int .i64 0, .int .i64 0] rfl)
            have k7 : Blk U3 W5.heap.size 71 [.int .i64 0, .int .i64 0] := by rw [hU]; exact K7.out.alloc _
            have k8 : Blk U3 p8 71 [.int .i64 0, .int .i64 0] := by rw [hU]; exact K8.out.alloc _
            have hS1 : Frm W5.heap.size [] W5 U3 := by rw [hU]; exact HS.out.alloc HS.out.size _
            have l9 : W5.heap.size ≤ U2.heap.size := HS.out.size
            have n79 : W5.heap.size ≠ U2.heap.size := by have := K7.out.lt; omega
            have n89 : p8 ≠ U2.heap.size := by have := K8.out.lt; omega
            obtain ⟨p9, hp⟩ : ∃ p, p = U2.heap.size := ⟨_, rfl⟩
            rw [← hp] at k9 l9 n79 n89 ⊢
            clear hU HS K7 K8 hp
            have HS := Lib.hid hS1
            have K9 := Lib.hid k9
            have L9 := Lib.hid l9
            have K7 := Lib.hid k7
            have N79 := Lib.hid n79
            have K8 := Lib.hid k8
            have N89 := Lib.hid n89
            clear n89 k8 n79 k7 l9 k9 hS1
            refine LeftL.one 21 rfl (by kernel_rfl) ?_
            refine wpList_storeB (P := Try.prog) (ty := 71) (cs := spC pa) rfl rfl K7.out rfl rfl rfl info71 (spC_one _) ?_
            refine wpList_nil ?_
            have k7 := K7.out.row (spC pa)
            have k8 := K8.out.row_other (g := W5.heap.size) (spC pa).toArray N78.out
            have k9 := K9.out.row_other (g := W5.heap.size) (spC pa).toArray N79.out
            have hS1 := HS.out.setRow (g := W5.heap.size) (.inr L7.out) (spC pa).toArray
            generalize World.setRow _ W5.heap.size (spC pa).toArray = V0 at k7 k8 k9 hS1 ⊢
            clear K7 K8 K9 HS
            have K7 := Lib.hid k7
            have K8 := Lib.hid k8
            have K9 := Lib.hid k9
            have HS := Lib.hid hS1
            clear hS1 k9 k8 k7
            refine ⟨fun _ => HS.out, ?_⟩
            refine LeftL.one 22 rfl (by kernel_rfl) ?_
            refine wpList_storeB (P := Try.prog) (ty := 71) (cs := spC pb) rfl rfl K8.out rfl rfl rfl info71 (spC_one _) ?_
            refine wpList_nil ?_
            have k8 := K8.out.row (spC pb)
            have k7 := K7.out.row_other (g := p8) (spC pb).toArray N78.out.symm
            have k9 := K9.out.row_other (g := p8) (spC pb).toArray N89.out
            have hS1 := HS.out.setRow (g := p8) (.inr L8.out) (spC pb).toArray
            generalize World.setRow _ p8 (spC pb).toArray = V1 at k7 k8 k9 hS1 ⊢
            clear K7 K8 K9 HS
            have K7 := Lib.hid k7
            have K8 := Lib.hid k8
            have K9 := Lib.hid k9
            have HS := Lib.hid hS1
            clear hS1 k9 k8 k7
            refine ⟨fun _ => HS.out, ?_⟩
            refine LeftL.one 23 rfl (by kernel_rfl) ?_
            refine wpList_storeB (P := Try.prog) (ty := 71) (cs := spC pc) rfl rfl K9.out rfl rfl rfl info71 (spC_one _) ?_
            refine wpList_nil ?_
            have k9 := K9.out.row (spC pc)
            have k7 := K7.out.row_other (g := p9) (spC pc).toArray N79.out.symm
            have k8 := K8.out.row_other (g := p9) (spC pc).toArray N89.out.symm
            have hS1 := HS.out.setRow (g := p9) (.inr L9.out) (spC pc).toArray
            generalize World.setRow _ p9 (spC pc).toArray = V2 at k7 k8 k9 hS1 ⊢
            clear K7 K8 K9 HS
            have K7 := Lib.hid k7
            have K8 := Lib.hid k8
            have K9 := Lib.hid k9
            have HS := Lib.hid hS1
            clear hS1 k9 k8 k7
            refine ⟨fun h => absurd rfl h, ?_⟩
            refine LeftL.done (by kernel_rfl) ?_
            go_wp2_with fail
            go_meet
            case rel => exact ⟨_, _, _, rfl, rfl, rfl, K7.out, K8.out, K9.out, HS.out⟩
          · go_wp2_with fail
            refine ⟨fun _ => HS.out.alloc HS.out.size _, ?_⟩
            refine namedLL ?_; intro U2 hU
            have k9 : Blk U2 U1.heap.size 71 [.int .i64 0, .int .i64 0] := by rw [hU]; exact (Blk.new' _ 71 [.int .i64 0, .int .i64 0] rfl)
            have k7 : Blk U2 W5.heap.size 71 [.int .i64 0, .int .i64 0] := by rw [hU]; exact K7.out.alloc _
            have hS1 : Frm W5.heap.size [] W5 U2 := by rw [hU]; exact HS.out.alloc HS.out.size _
            have l9 : W5.heap.size ≤ U1.heap.size := HS.out.size
            have n79 : W5.heap.size ≠ U1.heap.size := by have := K7.out.lt; omega
            obtain ⟨p9, hp⟩ : ∃ p, p = U1.heap.size := ⟨_, rfl⟩
            rw [← hp] at k9 l9 n79 ⊢
            clear hU HS K7 hp
            have HS := Lib.hid hS1
            have K9 := Lib.hid k9
            have L9 := Lib.hid l9
            have K7 := Lib.hid k7
            have N79 := Lib.hid n79
            clear n79 k7 l9 k9 hS1
            refine LeftL.one 19 rfl (by kernel_rfl) ?_
            go_wp2_with fail
            refine ⟨fun _ => HS.out.alloc HS.out.size _, ?_⟩
            refine namedLL ?_; intro U3 hU
            have k8 : Blk U3 U2.heap.size 71 [.int .i64 0, .int .i64 0] := by rw [hU]; exact (Blk.new' _ 71 [.int .i64 0, .int .i64 0] rfl)
            have k7 : Blk U3 W5.heap.size 71 [.int .i64 0, .int .i64 0] := by rw [hU]; exact K7.out.alloc _
            have k9 : Blk U3 p9 71 [.int .i64 0, .int .i64 0] := by rw [hU]; exact K9.out.alloc _
            have hS1 : Frm W5.heap.size [] W5 U3 := by rw [hU]; exact HS.out.alloc HS.out.size _
            have l8 : W5.heap.size ≤ U2.heap.size := HS.out.size
            have n78 : W5.heap.size ≠ U2.heap.size := by have := K7.out.lt; omega
            have n98 : p9 ≠ U2.heap.size := by have := K9.out.lt; omega
            obtain ⟨p8, hp⟩ : ∃ p, p = U2.heap.size := ⟨_, rfl⟩
            rw [← hp] at k8 l8 n78 n98 ⊢
            clear hU HS K7 K9 hp
            have HS := Lib.hid hS1
            have K8 := Lib.hid k8
            have L8 := Lib.hid l8
            have K7 := Lib.hid k7
            have N78 := Lib.hid n78
            have K9 := Lib.hid k9
            have N98 := Lib.hid n98
            clear n98 k9 n78 k7 l8 k8 hS1
            refine LeftL.one 21 rfl (by kernel_rfl) ?_
            refine wpList_storeB (P := Try.prog) (ty := 71) (cs := spC pa) rfl rfl K7.out rfl rfl rfl info71 (spC_one _) ?_
            refine wpList_nil ?_
            have k7 := K7.out.row (spC pa)
            have k8 := K8.out.row_other (g := W5.heap.size) (spC pa).toArray N78.out
            have k9 := K9.out.row_other (g := W5.heap.size) (spC pa).toArray N79.out
            have hS1 := HS.out.setRow (g := W5.heap.size) (.inr L7.out) (spC pa).toArray
            generalize World.setRow _ W5.heap.size (spC pa).toArray = V0 at k7 k8 k9 hS1 ⊢
            clear K7 K8 K9 HS
            have K7 := Lib.hid k7
            have K8 := Lib.hid k8
            have K9 := Lib.hid k9
            have HS := Lib.hid hS1
            clear hS1 k9 k8 k7
            refine ⟨fun _ => HS.out, ?_⟩
            refine LeftL.one 22 rfl (by kernel_rfl) ?_
            refine wpList_storeB (P := Try.prog) (ty := 71) (cs := spC pb) rfl rfl K8.out rfl rfl rfl info71 (spC_one _) ?_
            refine wpList_nil ?_
            have k8 := K8.out.row (spC pb)
            have k7 := K7.out.row_other (g := p8) (spC pb).toArray N78.out.symm
            have k9 := K9.out.row_other (g := p8) (spC pb).toArray N98.out.symm
            have hS1 := HS.out.setRow (g := p8) (.inr L8.out) (spC pb).toArray
            generalize World.setRow _ p8 (spC pb).toArray = V1 at k7 k8 k9 hS1 ⊢
            clear K7 K8 K9 HS
            have K7 := Lib.hid k7
            have K8 := Lib.hid k8
            have K9 := Lib.hid k9
            have HS := Lib.hid hS1
            clear hS1 k9 k8 k7
            refine ⟨fun _ => HS.out, ?_⟩
            refine LeftL.one 23 rfl (by kernel_rfl) ?_
            refine wpList_storeB (P := Try.prog) (ty := 71) (cs := spC pc) rfl rfl K9.out rfl rfl rfl info71 (spC_one _) ?_
            refine wpList_nil ?_
            have k9 := K9.out.row (spC pc)
            have k7 := K7.out.row_other (g := p9) (spC pc).toArray N79.out.symm
            have k8 := K8.out.row_other (g := p9) (spC pc).toArray N98.out
            have hS1 := HS.out.setRow (g := p9) (.inr L9.out) (spC pc).toArray
            generalize World.setRow _ p9 (spC pc).toArray = V2 at k7 k8 k9 hS1 ⊢
            clear K7 K8 K9 HS
            have K7 := Lib.hid k7
            have K8 := Lib.hid k8
            have K9 := Lib.hid k9
            have HS := Lib.hid hS1
            clear hS1 k9 k8 k7
            refine ⟨fun h => absurd rfl h, ?_⟩
            refine LeftL.done (by kernel_rfl) ?_
            go_wp2_with fail
            go_meet
            case rel => exact ⟨_, _, _, rfl, rfl, rfl, K7.out, K8.out, K9.out, HS.out⟩
        · go_wp2_with fail
          refine ⟨((Frm.refl _ _ W5).alloc (Nat.le_refl _) _).drew, ?_⟩
          refine namedLL ?_; intro U1 hU
          have k8 : Blk U1 W5.heap.size 71 [.int .i64 0, .int .i64 0] := by rw [hU]; exact (Blk.new' _ 71 [.int .i64 0, .int .i64 0] rfl).drew
          have hS1 : Frm W5.heap.size [] W5 U1 := by rw [hU]; exact ((Frm.refl _ _ W5).alloc (Nat.le_refl _) _).drew
          have l8 : W5.heap.size ≤ W5.heap.size := Nat.le_refl _
          clear hU HS 
          have HS := Lib.hid hS1
          have K8 := Lib.hid k8
          have L8 := Lib.hid l8
          clear l8 k8 hS1
          refine LeftL.two 18 20 rfl rfl (by kernel_rfl) ?_ ?_
          · go_wp2_with fail
            refine ⟨fun _ => HS.out.alloc HS.out.size _, ?_⟩
            refine namedLL ?_; intro U2 hU
            have k7 : Blk U2 U1.heap.size 71 [.int .i64 0, .int .i64 0] := by rw [hU]; exact (Blk.new' _ 71 [.int .i64 0, .int .i64 0] rfl)
            have k8 : Blk U2 W5.heap.size 71 [.int .i64 0, .int .i64 0] := by rw [hU]; exact K8.out.alloc _
            have hS1 : Frm W5.heap.size [] W5 U2 := by rw [hU]; exact HS.out.alloc HS.out.size _
            have l7 : W5.heap.size ≤ U1.heap.size := HS.out.size
            have n87 : W5.heap.size ≠ U1.heap.size := by have := K8.out.lt; omega
            obtain ⟨p7, hp⟩ : ∃ p, p = U1.heap.size := ⟨_, rfl⟩
            rw [← hp] at k7 l7 n87 ⊢
            clear hU HS K8 hp
            have HS := Lib.hid hS1
            have K7 := Lib.hid k7
            have L7 := Lib.hid l7
            have K8 := Lib.hid k8
            have N87 := Lib.hid n87
            clear n87 k8 l7 k7 hS1
            refine LeftL.one 20 rfl (by kernel_rfl) ?_
            go_wp2_with fail
            refine ⟨fun _ => HS.out.alloc HS.out.size _, ?_⟩
            refine namedLL ?_; intro U3 hU
            have k9 : Blk U3 U2.heap.size 71 [.int .i64 0, .int .i64 0] := by rw [hU]; exact (Blk.new' _ 71 [.int .i64 0, .int .i64 0] rfl)
            have k8 : Blk U3 W5.heap.size 71 [.int .i64 0, .int .i64 0] := by rw [hU]; exact K8.out.alloc _
            have k7 : Blk U3 p7 71 [.int .i64 0, .int .i64 0] := by rw [hU]; exact K7.out.alloc _
            have hS1 : Frm W5.heap.size [] W5 U3 := by rw [hU]; exact HS.out.alloc HS.out.size _
            have l9 : W5.heap.size ≤ U2.heap.size := HS.out.size
            have n89 : W5.heap.size ≠ U2.heap.size := by have := K8.out.lt; omega
            have n79 : p7 ≠ U2.heap.size := by have := K7.out.lt; omega
            obtain ⟨p9, hp⟩ : ∃ p, p = U2.heap.size := ⟨_, rfl⟩
            rw [← hp] at k9 l9 n89 n79 ⊢
            clear hU HS K8 K7 hp
            have HS := Lib.hid hS1
            have K9 := Lib.hid k9
            have L9 := Lib.hid l9
            have K8 := Lib.hid k8
            have N89 := Lib.hid n89
            have K7 := Lib.hid k7
            have N79 := Lib.hid n79
            clear n79 k7 n89 k8 l9 k9 hS1
            refine LeftL.one 21 rfl (by kernel_rfl) ?_
            refine wpList_storeB (P := Try.prog) (ty := 71) (cs := spC pa) rfl rfl K7.out rfl rfl rfl info71 (spC_one _) ?_
            refine wpList_nil ?_
            have k7 := K7.out.row (spC pa)
            have k8 := K8.out.row_other (g := p7) (spC pa).toArray N87.out.symm
            have k9 := K9.out.row_other (g := p7) (spC pa).toArray N79.out
            have hS1 := HS.out.setRow (g := p7) (.inr L7.out) (spC pa).toArray
            generalize World.setRow _ p7 (spC pa).toArray = V0 at k7 k8 k9 hS1 ⊢
            clear K7 K8 K9 HS
            have K7 := Lib.hid k7
            have K8 := Lib.hid k8
            have K9 := Lib.hid k9
            have HS := Lib.hid hS1
            clear hS1 k9 k8 k7
            refine ⟨fun _ => HS.out, ?_⟩
            refine LeftL.one 22 rfl (by kernel_rfl) ?_
            refine wpList_storeB (P := Try.prog) (ty := 71) (cs := spC pb) rfl rfl K8.out rfl rfl rfl info71 (spC_one _) ?_
            refine wpList_nil ?_
            have k8 := K8.out.row (spC pb)
            have k7 := K7.out.row_other (g := W5.heap.size) (spC pb).toArray N87.out
            have k9 := K9.out.row_other (g := W5.heap.size) (spC pb).toArray N89.out
            have hS1 := HS.out.setRow (g := W5.heap.size) (.inr L8.out) (spC pb).toArray
            generalize World.setRow _ W5.heap.size (spC pb).toArray = V1 at k7 k8 k9 hS1 ⊢
            clear K7 K8 K9 HS
            have K7 := Lib.hid k7
            have K8 := Lib.hid k8
            have K9 := Lib.hid k9
            have HS := Lib.hid hS1
            clear hS1 k9 k8 k7
            refine ⟨fun _ => HS.out, ?_⟩
            refine LeftL.one 23 rfl (by kernel_rfl) ?_
            refine wpList_storeB (P := Try.prog) (ty := 71) (cs := spC pc) rfl rfl K9.out rfl rfl rfl info71 (spC_one _) ?_
            refine wpList_nil ?_
            have k9 := K9.out.row (spC pc)
            have k7 := K7.out.row_other (g := p9) (spC pc).toArray N79.out.symm
            have k8 := K8.out.row_other (g := p9) (spC pc).toArray N89.out.symm
            have hS1 := HS.out.setRow (g := p9) (.inr L9.out) (spC pc).toArray
            generalize World.setRow _ p9 (spC pc).toArray = V2 at k7 k8 k9 hS1 ⊢
            clear K7 K8 K9 HS
            have K7 := Lib.hid k7
            have K8 := Lib.hid k8
            have K9 := Lib.hid k9
            have HS := Lib.hid hS1
            clear hS1 k9 k8 k7
            refine ⟨fun h => absurd rfl h, ?_⟩
            refine LeftL.done (by kernel_rfl) ?_
            go_wp2_with fail
            go_meet
            case rel => exact ⟨_, _, _, rfl, rfl, rfl, K7.out, K8.out, K9.out, HS.out⟩
          · go_wp2_with fail
            refine ⟨fun _ => HS.out.alloc HS.out.size _, ?_⟩
            refine namedLL ?_; intro U2 hU
            have k9 : Blk U2 U1.heap.size 71 [.int .i64 0, .int .i64 0] := by rw [hU]; exact (Blk.new' _ 71 [.int .i64 0, .int .i64 0] rfl)
            have k8 : Blk U2 W5.heap.size 71 [.int .i64 0, .int .i64 0] := by rw [hU]; exact K8.out.alloc _
            have hS1 : Frm W5.heap.size [] W5 U2 := by rw [hU]; exact HS.out.alloc HS.out.size _
            have l9 : W5.heap.size ≤ U1.heap.size := HS.out.size
            have n89 : W5.heap.size ≠ U1.heap.size := by have := K8.out.lt; omega
            obtain ⟨p9, hp⟩ : ∃ p, p = U1.heap.size := ⟨_, rfl⟩
            rw [← hp] at k9 l9 n89 ⊢
            clear hU HS K8 hp
            have HS := Lib.hid hS1
            have K9 := Lib.hid k9
            have L9 := Lib.hid l9
            have K8 := Lib.hid k8
            have N89 := Lib.hid n89
            clear n89 k8 l9 k9 hS1
            refine LeftL.one 18 rfl (by kernel_rfl) ?_
            go_wp2_with fail
            refine ⟨fun _ => HS.out.alloc HS.out.size _, ?_⟩
            refine namedLL ?_; intro U3 hU
            have k7 : Blk U3 U2.heap.size 71 [.int .i64 0, .int .i64 0] := by rw [hU]; exact (Blk.new' _ 71 [.int .i64 0, .int .i64 0] rfl)
            have k8 : Blk U3 W5.heap.size 71 [.int .i64 0, .int .i64 0] := by rw [hU]; exact K8.out.alloc _
            have k9 : Blk U3 p9 71 [.int .i64 0, .int .i64 0] := by rw [hU]; exact K9.out.alloc _
            have hS1 : Frm W5.heap.size [] W5 U3 := by rw [hU]; exact HS.out.alloc HS.out.size _
            have l7 : W5.heap.size ≤ U2.heap.size := HS.out.size
            have n87 : W5.heap.size ≠ U2.heap.size := by have := K8.out.lt; omega
            have n97 : p9 ≠ U2.heap.size := by have := K9.out.lt; omega
            obtain ⟨p7, hp⟩ : ∃ p, p = U2.heap.size := ⟨_, rfl⟩
            rw [← hp] at k7 l7 n87 n97 ⊢
            clear hU HS K8 K9 hp
            have HS := Lib.hid hS1
            have K7 := Lib.hid k7
            have L7 := Lib.hid l7
            have K8 := Lib.hid k8
            have N87 := Lib.hid n87
            have K9 := Lib.hid k9
            have N97 := Lib.hid n97
            clear n97 k9 n87 k8 l7 k7 hS1
            refine LeftL.one 21 rfl (by kernel_rfl) ?_
            refine wpList_storeB (P := Try.prog) (ty := 71) (cs := spC pa) rfl rfl K7.out rfl rfl rfl info71 (spC_one _) ?_
            refine wpList_nil ?_
            have k7 := K7.out.row (spC pa)
            have k8 := K8.out.row_other (g := p7) (spC pa).toArray N87.out.symm
            have k9 := K9.out.row_other (g := p7) (spC pa).toArray N97.out.symm
            have hS1 := HS.out.setRow (g := p7) (.inr L7.out) (spC pa).toArray
            generalize World.setRow _ p7 (spC pa).toArray = V0 at k7 k8 k9 hS1 ⊢
            clear K7 K8 K9 HS
            have K7 := Lib.hid k7
            have K8 := Lib.hid k8
            have K9 := Lib.hid k9
            have HS := Lib.hid hS1
            clear hS1 k9 k8 k7
            refine ⟨fun _ => HS.out, ?_⟩
            refine LeftL.one 22 rfl (by kernel_rfl) ?_
            refine wpList_storeB (P := Try.prog) (ty := 71) (cs := spC pb) rfl rfl K8.out rfl rfl rfl info71 (spC_one _) ?_
            refine wpList_nil ?_
            have k8 := K8.out.row (spC pb)
            have k7 := K7.out.row_other (g := W5.heap.size) (spC pb).toArray N87.out
            have k9 := K9.out.row_other (g := W5.heap.size) (spC pb).toArray N89.out
            have hS1 := HS.out.setRow (g := W5.heap.size) (.inr L8.out) (spC pb).toArray
            generalize World.setRow _ W5.heap.size (spC pb).toArray = V1 at k7 k8 k9 hS1 ⊢
            clear K7 K8 K9 HS
            have K7 := Lib.hid k7
            have K8 := Lib.hid k8
            have K9 := Lib.hid k9
            have HS := Lib.hid hS1
            clear hS1 k9 k8 k7
            refine ⟨fun _ => HS.out, ?_⟩
            refine LeftL.one 23 rfl (by kernel_rfl) ?_
            refine wpList_storeB (P := Try.prog) (ty := 71) (cs := spC pc) rfl rfl K9.out rfl rfl rfl info71 (spC_one _) ?_
            refine wpList_nil ?_
            have k9 := K9.out.row (spC pc)
            have k7 := K7.out.row_other (g := p9) (spC pc).toArray N97.out
            have k8 := K8.out.row_other (g := p9) (spC pc).toArray N89.out.symm
            have hS1 := HS.out.setRow (g := p9) (.inr L9.out) (spC pc).toArray
            generalize World.setRow _ p9 (spC pc).toArray = V2 at k7 k8 k9 hS1 ⊢
            clear K7 K8 K9 HS
            have K7 := Lib.hid k7
            have K8 := Lib.hid k8
            have K9 := Lib.hid k9
            have HS := Lib.hid hS1
            clear hS1 k9 k8 k7
            refine ⟨fun h => absurd rfl h, ?_⟩
            refine LeftL.done (by kernel_rfl) ?_
            go_wp2_with fail
            go_meet
            case rel => exact ⟨_, _, _, rfl, rfl, rfl, K7.out, K8.out, K9.out, HS.out⟩
        · go_wp2_with fail
          refine ⟨((Frm.refl _ _ W5).alloc (Nat.le_refl _) _).drew, ?_⟩
          refine namedLL ?_; intro U1 hU
          have k9 : Blk U1 W5.heap.size 71 [.int .i64 0, .int .i64 0] := by rw [hU]; exact (Blk.new' _ 71 [.int .i64 0, .int .i64 0] rfl).drew
          have hS1 : Frm W5.heap.size [] W5 U1 := by rw [hU]; exact ((Frm.refl _ _ W5).alloc (Nat.le_refl _) _).drew
          have l9 : W5.heap.size ≤ W5.heap.size := Nat.le_refl _
          clear hU HS 
          have HS := Lib.hid hS1
          have K9 := Lib.hid k9
          have L9 := Lib.hid l9
          clear l9 k9 hS1
          refine LeftL.two 18 19 rfl rfl (by kernel_rfl) ?_ ?_
          · go_wp2_with fail
            refine ⟨fun _ => HS.out.alloc HS.out.size _, ?_⟩
            refine namedLL ?_; intro U2 hU
            have k7 : Blk U2 U1.heap.size 71 [.int .i64 0, .int .i64 0] := by rw [hU]; exact (Blk.new' _ 71 [.int .i64 0, .int .i64 0] rfl)
            have k9 : Blk U2 W5.heap.size 71 [.int .i64 0, .int .i64 0] := by rw [hU]; exact K9.out.alloc _
            have hS1 : Frm W5.heap.size [] W5 U2 := by rw [hU]; exact HS.out.alloc HS.out.size _
            have l7 : W5.heap.size ≤ U1.heap.size := HS.out.size
            have n97 : W5.heap.size ≠ U1.heap.size := by have := K9.out.lt; omega
            obtain ⟨p7, hp⟩ : ∃ p, p = U1.heap.size := ⟨_, rfl⟩
            rw [← hp] at k7 l7 n97 ⊢
            clear hU HS K9 hp
            have HS := Lib.hid hS1
            have K7 := Lib.hid k7
            have L7 := Lib.hid l7
            have K9 := Lib.hid k9
            have N97 := Lib.hid n97
            clear n97 k9 l7 k7 hS1
            refine LeftL.one 19 rfl (by kernel_rfl) ?_
            go_wp2_with fail
            refine ⟨fun _ => HS.out.alloc HS.out.size _, ?_⟩
            refine namedLL ?_; intro U3 hU
            have k8 : Blk U3 U2.heap.size 71 [.int .i64 0, .int .i64 0] := by rw [hU]; exact (Blk.new' _ 71 [.int .i64 0, .int .i64 0] rfl)
            have k9 : Blk U3 W5.heap.size 71 [.int .i64 0, .int .i64 0] := by rw [hU]; exact K9.out.alloc _
            have k7 : Blk U3 p7 71 [.int .i64 0, .int .i64 0] := by rw [hU]; exact K7.out.alloc _
            have hS1 : Frm W5.heap.size [] W5 U3 := by rw [hU]; exact HS.out.alloc HS.out.size _
            have l8 : W5.heap.size ≤ U2.heap.size := HS.out.size
            have n98 : W5.heap.size ≠ U2.heap.size := by have := K9.out.lt; omega
            have n78 : p7 ≠ U2.heap.size := by have := K7.out.lt; omega
            obtain ⟨p8, hp⟩ : ∃ p, p = U2.heap.size := ⟨_, rfl⟩
            rw [← hp] at k8 l8 n98 n78 ⊢
            clear hU HS K9 K7 hp
            have HS := Lib.hid hS1
            have K8 := Lib.hid k8
            have L8 := Lib.hid l8
            have K9 := Lib.hid k9
            have N98 := Lib.hid n98
            have K7 := Lib.hid k7
            have N78 := Lib.hid n78
            clear n78 k7 n98 k9 l8 k8 hS1
            refine LeftL.one 21 rfl (by kernel_rfl) ?_
            refine wpList_storeB (P := Try.prog) (ty := 71) (cs := spC pa) rfl rfl K7.out rfl rfl rfl info71 (spC_one _) ?_
            refine wpList_nil ?_
            have k7 := K7.out.row (spC pa)
            have k8 := K8.out.row_other (g := p7) (spC pa).toArray N78.out
            have k9 := K9.out.row_other (g := p7) (spC pa).toArray N97.out.symm
            have hS1 := HS.out.setRow (g := p7) (.inr L7.out) (spC pa).toArray
            generalize World.setRow _ p7 (spC pa).toArray = V0 at k7 k8 k9 hS1 ⊢
            clear K7 K8 K9 HS
            have K7 := Lib.hid k7
            have K8 := Lib.hid k8
            have K9 := Lib.hid k9
            have HS := Lib.hid hS1
            clear hS1 k9 k8 k7
            refine ⟨fun _ => HS.out, ?_⟩
            refine LeftL.one 22 rfl (by kernel_rfl) ?_
            refine wpList_storeB (P := Try.prog) (ty := 71) (cs := spC pb) rfl rfl K8.out rfl rfl rfl info71 (spC_one _) ?_
            refine wpList_nil ?_
            have k8 := K8.out.row (spC pb)
            have k7 := K7.out.row_other (g := p8) (spC pb).toArray N78.out.symm
            have k9 := K9.out.row_other (g := p8) (spC pb).toArray N98.out.symm
            have hS1 := HS.out.setRow (g := p8) (.inr L8.out) (spC pb).toArray
            generalize World.setRow _ p8 (spC pb).toArray = V1 at k7 k8 k9 hS1 ⊢
            clear K7 K8 K9 HS
            have K7 := Lib.hid k7
            have K8 := Lib.hid k8
            have K9 := Lib.hid k9
            have HS := Lib.hid hS1
            clear hS1 k9 k8 k7
            refine ⟨fun _ => HS.out, ?_⟩
            refine LeftL.one 23 rfl (by kernel_rfl) ?_
            refine wpList_storeB (P := Try.prog) (ty := 71) (cs := spC pc) rfl rfl K9.out rfl rfl rfl info71 (spC_one _) ?_
            refine wpList_nil ?_
            have k9 := K9.out.row (spC pc)
            have k7 := K7.out.row_other (g := W5.heap.size) (spC pc).toArray N97.out
            have k8 := K8.out.row_other (g := W5.heap.size) (spC pc).toArray N98.out
            have hS1 := HS.out.setRow (g := W5.heap.size) (.inr L9.out) (spC pc).toArray
            generalize World.setRow _ W5.heap.size (spC pc).toArray = V2 at k7 k8 k9 hS1 ⊢
            clear K7 K8 K9 HS
            have K7 := Lib.hid k7
            have K8 := Lib.hid k8
            have K9 := Lib.hid k9
            have HS := Lib.hid hS1
            clear hS1 k9 k8 k7
            refine ⟨fun h => absurd rfl h, ?_⟩
            refine LeftL.done (by kernel_rfl) ?_
            go_wp2_with fail
            go_meet
            case rel => exact ⟨_, _, _, rfl, rfl, rfl, K7.out, K8.out, K9.out, HS.out⟩
          · go_wp2_with fail
            refine ⟨fun _ => HS.out.alloc HS.out.size _, ?_⟩
            refine namedLL ?_; intro U2 hU
            have k8 : Blk U2 U1.heap.size 71 [.int .i64 0, .int .i64 0] := by rw [hU]; exact (Blk.new' _ 71 [.int .i64 0, .int .i64 0] rfl)
            have k9 : Blk U2 W5.heap.size 71 [.int .i64 0, .int .i64 0] := by rw [hU]; exact K9.out.alloc _
            have hS1 : Frm W5.heap.size [] W5 U2 := by rw [hU]; exact HS.out.alloc HS.out.size _
            have l8 : W5.heap.size ≤ U1.heap.size := HS.out.size
            have n98 : W5.heap.size ≠ U1.heap.size := by have := K9.out.lt; omega
            obtain ⟨p8, hp⟩ : ∃ p, p = U1.heap.size := ⟨_, rfl⟩
            rw [← hp] at k8 l8 n98 ⊢
            clear hU HS K9 hp
            have HS := Lib.hid hS1
            have K8 := Lib.hid k8
            have L8 := Lib.hid l8
            have K9 := Lib.hid k9
            have N98 := Lib.hid n98
            clear n98 k9 l8 k8 hS1
            refine LeftL.one 18 rfl (by kernel_rfl) ?_
            go_wp2_with fail
            refine ⟨fun _ => HS.out.alloc HS.out.size _, ?_⟩
            refine namedLL ?_; intro U3 hU
            have k7 : Blk U3 U2.heap.size 71 [.int .i64 0, .int .i64 0] := by rw [hU]; exact (Blk.new' _ 71 [.int .i64 0, .int .i64 0] rfl)
            have k9 : Blk U3 W5.heap.size 71 [.int .i64 0, .int .i64 0] := by rw [hU]; exact K9.out.alloc _
            have k8 : Blk U3 p8 71 [.int .i64 0, .int .i64 0] := by rw [hU]; exact K8.out.alloc _
            have hS1 : Frm W5.heap.size [] W5 U3 := by rw [hU]; exact HS.out.alloc HS.out.size _
            have l7 : W5.heap.size ≤ U2.heap.size := HS.out.size
            have n97 : W5.heap.size ≠ U2.heap.size := by have := K9.out.lt; omega
            have n87 : p8 ≠ U2.heap.size := by have := K8.out.lt; omega
            obtain ⟨p7, hp⟩ : ∃ p, p = U2.heap.size := ⟨_, rfl⟩
            rw [← hp] at k7 l7 n97 n87 ⊢
            clear hU HS K9 K8 hp
            have HS := Lib.hid hS1
            have K7 := Lib.hid k7
            have L7 := Lib.hid l7
            have K9 := Lib.hid k9
            have N97 := Lib.hid n97
            have K8 := Lib.hid k8
            have N87 := Lib.hid n87
            clear n87 k8 n97 k9 l7 k7 hS1
            refine LeftL.one 21 rfl (by kernel_rfl) ?_
            refine wpList_storeB (P := Try.prog) (ty := 71) (cs := spC pa) rfl rfl K7.out rfl rfl rfl info71 (spC_one _) ?_
            refine wpList_nil ?_
            have k7 := K7.out.row (spC pa)
            have k8 := K8.out.row_other (g := p7) (spC pa).toArray N87.out.symm
            have k9 := K9.out.row_other (g := p7) (spC pa).toArray N97.out.symm
            have hS1 := HS.out.setRow (g := p7) (.inr L7.out) (spC pa).toArray
            generalize World.setRow _ p7 (spC pa).toArray = V0 at k7 k8 k9 hS1 ⊢
            clear K7 K8 K9 HS
            have K7 := Lib.hid k7
            have K8 := Lib.hid k8
            have K9 := Lib.hid k9
            have HS := Lib.hid hS1
            clear hS1 k9 k8 k7
            refine ⟨fun _ => HS.out, ?_⟩
            refine LeftL.one 22 rfl (by kernel_rfl) ?_
            refine wpList_storeB (P := Try.prog) (ty := 71) (cs := spC pb) rfl rfl K8.out rfl rfl rfl info71 (spC_one _) ?_
            refine wpList_nil ?_
            have k8 := K8.out.row (spC pb)
            have k7 := K7.out.row_other (g := p8) (spC pb).toArray N87.out
            have k9 := K9.out.row_other (g := p8) (spC pb).toArray N98.out.symm
            have hS1 := HS.out.setRow (g := p8) (.inr L8.out) (spC pb).toArray
            generalize World.setRow _ p8 (spC pb).toArray = V1 at k7 k8 k9 hS1 ⊢
            clear K7 K8 K9 HS
            have K7 := Lib.hid k7
            have K8 := Lib.hid k8
            have K9 := Lib.hid k9
            have HS := Lib.hid hS1
            clear hS1 k9 k8 k7
            refine ⟨fun _ => HS.out, ?_⟩
            refine LeftL.one 23 rfl (by kernel_rfl) ?_
            refine wpList_storeB (P := Try.prog) (ty := 71) (cs := spC pc) rfl rfl K9.out rfl rfl rfl info71 (spC_one _) ?_
            refine wpList_nil ?_
            have k9 := K9.out.row (spC pc)
            have k7 := K7.out.row_other (g := W5.heap.size) (spC pc).toArray N97.out
            have k8 := K8.out.row_other (g := W5.heap.size) (spC pc).toArray N98.out
            have hS1 := HS.out.setRow (g := W5.heap.size) (.inr L9.out) (spC pc).toArray
            generalize World.setRow _ W5.heap.size (spC pc).toArray = V2 at k7 k8 k9 hS1 ⊢
            clear K7 K8 K9 HS
            have K7 := Lib.hid k7
            have K8 := Lib.hid k8
            have K9 := Lib.hid k9
            have HS := Lib.hid hS1
            clear hS1 k9 k8 k7
            refine ⟨fun h => absurd rfl h, ?_⟩
            refine LeftL.done (by kernel_rfl) ?_
            go_wp2_with fail
            go_meet
            case rel => exact ⟨_, _, _, rfl, rfl, rfl, K7.out, K8.out, K9.out, HS.out⟩
      obtain ⟨p7, p8, p9, rfl, rfl, rfl, k7, k8, k9, hfc⟩ := hcut
      have hf := HFR.out.call hfc HFR.out.size (by simp)
      obtain ⟨z, hz⟩ : ∃ z, z = areaZ L i := ⟨_, rfl⟩
      obtain ⟨z2, hz2⟩ : ∃ z, z = areaZ L (i + 1) := ⟨_, rfl⟩
      have hzi := HZI.out
      have hzj := HZJ.out
      have hzs := HZS.out
      rw [← hz] at hzi hzs ⊢
      rw [← hz2] at hzj hzs
      obtain ⟨a0, a1⟩ := pa
      obtain ⟨b0, b1⟩ := pb
      obtain ⟨u, hu⟩ : ∃ u, u = a0 * b1 := ⟨_, rfl⟩
      obtain ⟨v, hv⟩ : ∃ u, u = b0 * a1 := ⟨_, rfl⟩
      obtain ⟨s, hs⟩ : ∃ s, s = z + u := ⟨_, rfl⟩
      have mu : -281474976710656 ≤ a0 * b1 ∧ a0 * b1 ≤ 281474976710656 := mul_abs OKA.out.1 OKB.out.2 (by omega)
      have mv : -281474976710656 ≤ b0 * a1 ∧ b0 * a1 ≤ 281474976710656 := mul_abs OKB.out.1 OKA.out.2 (by omega)
      dsimp only at hzs
      rw [← hu, ← hv, ← hs] at hzs
      rw [← hu] at mu
      rw [← hv] at mv
      have e1 : IntKind.i64.wrap (a0 * b1) = u := by rw [← hu]; exact IntWalk.i64_in _ (by omega)
      have e2 : IntKind.i64.wrap (z + u) = s := by rw [← hs]; exact IntWalk.i64_in _ (by omega)
      have e3 : IntKind.i64.wrap (b0 * a1) = v := by rw [← hv]; exact IntWalk.i64_in _ (by omega)
      have e4 : IntKind.i64.wrap (s - v) = z2 := by rw [← hzs]; exact IntWalk.i64_in _ (by omega)
      have f1 : wrap64 (a0 * b1) = u := by rw [← hu]; exact IntWalk.wrap64_in _ (by omega)
      have f2 : wrap64 (z + u) = s := by rw [← hs]; exact IntWalk.wrap64_in _ (by omega)
      have f3 : wrap64 (b0 * a1) = v := by rw [← hv]; exact IntWalk.wrap64_in _ (by omega)
      have f4 : wrap64 (s - v) = z2 := by rw [← hzs]; exact IntWalk.wrap64_in _ (by omega)
      clear hu hv hs hzs hzi hzj mu mv hz HZI HZJ HZS
      obtain ⟨W6, hW6⟩ : ∃ V, V = wc := ⟨_, rfl⟩
      rw [← hW6] at k7 k8 k9 hf ⊢
      clear hfc HFR HFX HLA HLB HLC hW6
      have HF := Lib.hid hf
      have K7 := Lib.hid k7
      have K8 := Lib.hid k8
      have K9 := Lib.hid k9
      have HZ2 := Lib.hid hz2
      clear hz2 k9 k8 k7 hf
      go_wp2_with (first | (with_reducible refine atLoad 71 rfl ?_; first | refine wpList_loadE rfl rfl rfl (load_sp K7.out) ?_ | refine wpList_loadE rfl rfl rfl (load_sp K8.out) ?_ | refine wpList_loadE rfl rfl rfl (load_sp K9.out) ?_))
      refine (refTurn_any (a0, a1) (b0, b1) pc W6 OKA.out OKB.out OKC.out).mono ?_; rintro e W7 ⟨rfl, hft⟩
      have hf := HF.out.call hft HF.out.size (by simp)
      have k7 := hft.blk K7.out K7.out.lt (by simp)
      have k8 := hft.blk K8.out K8.out.lt (by simp)
      obtain ⟨t, ht⟩ : ∃ z, z = turnZ (a0, a1) (b0, b1) pc := ⟨_, rfl⟩
      have cn := CN.out
      have cy := CY.out
      rw [← ht] at cn cy ⊢
      clear hft HF K7 K8 K9 CN CY ht
      by_cases h0 : t ≤ 0
      · have hb : areaB L = false := by
          rw [HA.out, List.all_eq_false]
          exact ⟨i, by have h5 := HN.out; rw [← h5]; simpa using HIN.out, by rw [cn h0]; simp⟩
        clear cn cy
        have HF := Lib.hid hf
        have HB := Lib.hid hb
        clear hb hf
        go_wp2_with fail
        go_ret
        exact ⟨by rw [HB.out]; rfl, HF1.out.call HF.out HF1.out.size (by simp)⟩
      have cy := cy (by omega)
      have c0 : W7.cell? ⟨p7, 0, none⟩ = some (.int .i64 a0) := k7.cell 0
      have c1 : W7.cell? ⟨p7, 1, none⟩ = some (.int .i64 a1) := k7.cell 1
      have c2 : W7.cell? ⟨p8, 0, none⟩ = some (.int .i64 b0) := k8.cell 0
      have c3 : W7.cell? ⟨p8, 1, none⟩ = some (.int .i64 b1) := k8.cell 1
      clear cn
      have HF := Lib.hid hf
      have K7 := Lib.hid k7
      have K8 := Lib.hid k8
      have CY := Lib.hid cy
      clear cy k8 k7 hf
      go_wp2_with fail
      clear c0 c1 c2 c3 e1 e2 e3 e4 f1 f2 f3 f4 y4 y5 h0
      go_loopw [10] (fun s10 wr => ∃ k : Nat, s10 = .int .i64 k ∧ k ≤ n ∧ (∀ j, j < k → 0 ≤ turnZ (a0, a1) (b0, b1) (spt L j)) ∧ Frm w1.heap.size [] w1 wr ∧ Blk wr p7 71 (spC (a0, a1)) ∧ Blk wr p8 71 (spC (b0, b1))) (fun s10 _ => n - (intOf s10).toNat)
      case atStart => exact ⟨0, rfl, Nat.zero_le _, fun j hj => absurd hj (by omega), HF.out, K7.out, K8.out⟩
      case round =>
        obtain ⟨k, rfl, hk, hpos, hf, k7, k8⟩ := hrel
        by_cases hkn : k < n
        rotate_left
        · have hkn' : ¬ (k : Int) < (n : Int) := by omega
          obtain rfl : k = n := by omega
          have hb := CY.out hpos
          have hno2 : ∀ j, j < i + 1 → cornB L j = true := fun j hj => by
            rcases Nat.lt_or_ge j i with h | h
            · exact HNO.out j h
            · obtain rfl : j = i := by omega
              exact hb
          obtain ⟨y4, y5⟩ := wrapUp HIN.out hlen
          clear hpos hb k7 k8
          have HF2 := Lib.hid hf
          have HNO2 := Lib.hid hno2
          clear hno2 hf
          go_wp2_with fail
          (try simp only [y4, y5])
          exact ⟨⟨i + 1, by simp, HIN.out, by rw [HZ2.out], HNO2.out, HF2.out⟩, HMS.out⟩
        have hkn' : (k : Int) < (n : Int) := by omega
        obtain ⟨y4, y5⟩ := wrapUp hkn hlen
        have hms2 := meas_up hkn
        have okd := HOK.out k hkn
        have cb := CB.out k hkn
        have hrr := HR.out.frm (HF1.out.call hf HF1.out.size (by simp)) (Nat.le_refl _)
        obtain ⟨pd, hpd⟩ : ∃ p, p = spt L k := ⟨_, rfl⟩
        rw [← hpd] at okd cb
        obtain ⟨W8, hW8⟩ : ∃ V, V = wr := ⟨_, rfl⟩
        rw [← hW8] at hrr hf k7 k8 ⊢
        have hld : ∀ V, Frm W8.heap.size [] W8 V → (loadVar 71 ⟨b, off + k * 2, none⟩).run Try.prog V = .ok (.agg (spC pd).toArray) V := fun V hV => by rw [hpd]; exact (hrr.frm hV (Nat.le_refl _)).load (P := Try.prog) Try.underlying71 rfl hkn (info71s _)
        have hl7 : ∀ V, Frm W8.heap.size [] W8 V → (loadVar 71 ⟨p7, 0, none⟩).run Try.prog V = .ok (.agg (spC (a0, a1)).toArray) V := fun V hV => load_sp (hV.blk k7 k7.lt (by simp))
        have hl8 : ∀ V, Frm W8.heap.size [] W8 V → (loadVar 71 ⟨p8, 0, none⟩).run Try.prog V = .ok (.agg (spC (b0, b1)).toArray) V := fun V hV => load_sp (hV.blk k8 k8.lt (by simp))
        have hfx : ∀ V, Frm W8.heap.size [] W8 V → True ∧ True := fun _ _ => ⟨trivial, trivial⟩
        have hpos2 : 0 ≤ turnZ (a0, a1) (b0, b1) pd → ∀ j, j < k + 1 → 0 ≤ turnZ (a0, a1) (b0, b1) (spt L j) := fun h j hj => by
          rcases Nat.lt_succ_iff_lt_or_eq.1 hj with h2 | rfl
          · exact hpos j h2
          · rw [← hpd]; exact h
        clear hrr hpd hpos hW8
        have HF2 := Lib.hid hf
        have HMS2 := Lib.hid hms2
        have OKD := Lib.hid okd
        have CB2 := Lib.hid cb
        have HLD := Lib.hid hld
        have HL7 := Lib.hid hl7
        have HL8 := Lib.hid hl8
        have HPOS2 := Lib.hid hpos2
        have HFX := Lib.hid hfx
        have HKN := Lib.hid hkn
        have K72 := Lib.hid k7
        have K82 := Lib.hid k8
        clear k8 k7 hkn hfx hpos2 hl8 hl7 hld cb okd hms2 hf
        go_upto_region 22 with fail
        refine wp_region_leftL (fun V => Frm W8.heap.size [] W8 V) 1000 (by kernel_rfl) ?_
        have hS : Frm W8.heap.size [] W8 W8.drew := (Frm.refl _ _ W8).drew
        have HS := Lib.hid hS
        clear hS
        refine LeftL.take 0 rfl (by kernel_rfl) (fun _ _ d _ _ h => by cases d <;> exact h) (yields_loadE (ty := 71) rfl rfl rfl (HL7.out)) HS.out ?_; (intro K' hK'; go_simp; refine hK' _ ?_; clear hK' K')
        refine LeftL.take 1 rfl (by kernel_rfl) (fun _ _ d _ _ h => by cases d <;> exact h) (yields_loadE (ty := 71) rfl rfl rfl (HL8.out)) HS.out ?_; (intro K' hK'; go_simp; refine hK' _ ?_; clear hK' K')
        first | (refine LeftL.tkG (v := ?_) 2 rfl HS.out ?_ ?_; rotate_left; · intro V hV; obtain ⟨q1, q2⟩ := HFX.out V hV; clear hV; go_simp; rfl) | refine LeftL.tkN 2 rfl HS.out ?_
        (intro K h; go_simp; refine h _ ?_; clear h K)
        first | (refine LeftL.tkG (v := ?_) 3 rfl HS.out ?_ ?_; rotate_left; · intro V hV; obtain ⟨q1, q2⟩ := HFX.out V hV; clear hV; go_simp; rfl) | refine LeftL.tkN 3 rfl HS.out ?_
        (intro K h; go_simp; refine h _ ?_; clear h K)
        first | (refine LeftL.tkG (v := ?_) 4 rfl HS.out ?_ ?_; rotate_left; · intro V hV; obtain ⟨q1, q2⟩ := HFX.out V hV; clear hV; go_simp; rfl) | refine LeftL.tkN 4 rfl HS.out ?_
        (intro K h; go_simp; refine h _ ?_; clear h K)
        refine LeftL.take 5 rfl (by kernel_rfl) (fun _ _ d _ _ h => by cases d <;> exact h) (yields_loadE (ty := 71) rfl rfl rfl (HLD.out)) HS.out ?_; (intro K' hK'; go_simp; refine hK' _ ?_; clear hK' K')
        refine LeftL.one 6 rfl (by kernel_rfl) ?_
        go_wp2_with fail
        refine (refTurn_any (a0, a1) (b0, b1) pd _ OKA.out OKB.out OKD.out).mono ?_; rintro e w1 ⟨rfl, hf1⟩
        have hS1 := HS.out.call hf1 HS.out.size (by simp)
        clear hf1 HS
        have HS := Lib.hid hS1
        clear hS1
        go_wp2_with fail
        first | refine ⟨fun _ => HS.out, ?_⟩ | refine ⟨HS.out, ?_⟩
        obtain ⟨t2, ht2⟩ : ∃ z, z = turnZ (a0, a1) (b0, b1) pd := ⟨_, rfl⟩
        have cb := CB2.out
        have hpos2 := HPOS2.out
        rw [← ht2] at cb hpos2 ⊢
        clear ht2 CB2 HPOS2
        by_cases h2 : t2 < 0
        · have hb : areaB L = false := by
            rw [HA.out, List.all_eq_false]
            exact ⟨i, by have h5 := HN.out; rw [← h5]; simpa using HIN.out, by rw [cb h2]; simp⟩
          clear cb hpos2
          have HB := Lib.hid hb
          clear hb
          refine LeftL.one 7 rfl (by kernel_rfl) ?_
          go_wp2_with fail
          first | refine ⟨fun _ => HS.out, ?_⟩ | refine ⟨HS.out, ?_⟩
          refine LeftL.done (by kernel_rfl) ?_
          have hf := HF2.out.call HS.out HF2.out.size (by simp)
          clear HS HF2 HFX
          have HF2 := Lib.hid hf
          clear hf
          go_wp2_with fail
          go_ret
          exact ⟨by rw [HB.out]; rfl, HF1.out.call HF2.out HF1.out.size (by simp)⟩
        have hpos2 := hpos2 (by omega)
        clear cb
        have HPOS2 := Lib.hid hpos2
        clear hpos2
        refine LeftL.one 7 rfl (by kernel_rfl) ?_
        go_wp2_with fail
        first | refine ⟨fun _ => HS.out, ?_⟩ | refine ⟨HS.out, ?_⟩
        refine LeftL.done (by kernel_rfl) ?_
        have hf := HF2.out.call HS.out HF2.out.size (by simp)
        have k7 := HS.out.blk K72.out K72.out.lt (by simp)
        have k8 := HS.out.blk K82.out K82.out.lt (by simp)
        clear HS HF2 HFX K72 K82
        have HF2 := Lib.hid hf
        have K72 := Lib.hid k7
        have K82 := Lib.hid k8
        clear k8 k7 hf
        go_wp2_with fail
        (try simp only [y4, y5])
        exact ⟨⟨k + 1, by simp, HKN.out, HPOS2.out, HF2.out, K72.out, K82.out⟩, HMS2.out⟩
end Go.Proofs.Ythgmdilfmeefiaa
