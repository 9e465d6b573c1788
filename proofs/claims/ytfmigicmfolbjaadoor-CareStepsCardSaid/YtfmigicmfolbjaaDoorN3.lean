/-
  The first row, by the document.
-/
import Derived.Test.YtfmigicmfolbjaaDoorN2
namespace Go.Proofs.YtfmigicmfolbjaaDoor
set_option linter.all false
set_option linter.unusedSimpArgs false
set_option linter.unusedVariables false
open Go.RowKit Go.Shelf

def nextR (n : Nat) (A : Nat → Nat → Bool) (row : List Nat) : Int := match firstNext n A row with
  | some i => (i : Int)
  | none => -1
theorem nextR_no {n : Nat} {A : Nat → Nat → Bool} {row : List Nat} (h : ∀ j, j < n → readyB n A row j = false) : nextR n A row = -1 := by
  unfold nextR firstNext; rw [find_range_no h]
theorem nextR_yes {n i : Nat} {A : Nat → Nat → Bool} {row : List Nat} (hi : i < n) (h : ∀ j, j < i → readyB n A row j = false) (hr : readyB n A row i = true) : nextR n A row = (i : Int) := by
  unfold nextR firstNext; rw [find_range hi h hr]
theorem readyB_okA (n : Nat) (A : Nat → Nat → Bool) (row : List Nat) (i : Nat) : okA A row i (!row.contains i) n = readyB n A row i := rfl
set_option maxRecDepth 100000 in
set_option maxHeartbeats 16000000 in
theorem next_any (n B : Nat) (f : Nat → Nat) (A : Nat → Nat → Bool) (hA : ∀ i j, i < n → A i j = (f i).testBit j) (hn : n ≤ 12) (row : List Nat) (ad : Option Addr) (b off L cap : Nat) (hL : L = row.length) (w : World) (hm : MatAt w n B f) (hrl : RwI w ad b off L (at0 row)) :
    Calls Tryd.prog 74 #[.slice (some ⟨B, 0, none⟩) n n, .slice ad L cap] w fun e w' => e = .returned (.int .i64 (nextR n A row)) ∧ Frm w.heap.size [] w w' := by
  have hf0 := Tryd.func74
  have hlen : n ≤ maxLen := by unfold maxLen; omega
  obtain ⟨res, hres⟩ : ∃ r, r = nextR n A row := ⟨_, rfl⟩
  rw [← hres]
  have HA := Lib.hid hA
  have HN := Lib.hid hn
  have HL := Lib.hid hL
  have HM := Lib.hid hm
  have HRL := Lib.hid hrl
  have HRES := Lib.hid hres
  clear hres hrl hm hL hn hA
  go_enter Tryd.func74, Tryd.ntmps74
  go_wp2_with fail
  go_loopw [5] (fun s5 wr => ∃ i : Nat, s5 = .int .i64 i ∧ i ≤ n ∧ (∀ j, j < i → readyB n A row j = false) ∧ Frm w.heap.size [] w wr) (fun s5 _ => n - (intOf s5).toNat)
  case atStart => exact ⟨0, rfl, Nat.zero_le _, fun j hj => absurd hj (by omega), Frm.refl _ _ _⟩
  case round =>
    obtain ⟨i, rfl, hi, hno, hfr⟩ := hrel
    by_cases hin : i < n
    rotate_left
    · have hin' : ¬ (i : Int) < (n : Int) := by omega
      obtain rfl : i = n := by omega
      have hr1 : res = -1 := by rw [HRES.out]; exact nextR_no hno
      subst hr1
      clear hno
      have HFR := Lib.hid hfr
      clear hfr
      go_wp2_with fail
      go_ret
      exact ⟨rfl, HFR.out⟩
    have hin' : (i : Int) < (n : Int) := by omega
    obtain ⟨y4, y5⟩ := wrapUp hin hlen
    have hms := meas_up hin
    have hia := has_any ad b off L cap (at0 row) (i : Int) wr (HRL.out.frm hfr (Nat.le_refl _))
    have hih : inF (at0 row) L (i : Int) = row.contains i := by rw [HL.out]; exact inF_has row i
    rw [hih] at hia
    obtain ⟨c0, hc0⟩ : ∃ x, x = row.contains i := ⟨_, rfl⟩
    rw [← hc0] at hia
    clear hih
    have HIA := Lib.hid hia
    have HNO := Lib.hid hno
    have HFR := Lib.hid hfr
    have HC0 := Lib.hid hc0
    have HIN := Lib.hid hin
    have HMS := Lib.hid hms
    clear hms hin hc0 hfr hno hia
    have hin := HIN.out
    go_wp2_with (go_at_call 66; refine HIA.out.mono ?_; rintro e9 w9 ⟨rfl, hf9⟩; have hf2 := HFR.out.call hf9 HFR.out.size (by simp); clear hf9)
    have hf2' := hf2
    clear hf2 HFR HIA
    have HFR := Lib.hid hf2'
    clear hf2'
    go_loopw [6, 7] (fun s6 s7 wr => ∃ k : Nat, s7 = .int .i64 k ∧ k ≤ n ∧ s6 = .bool (okA A row i (!c0) k) ∧ Frm w.heap.size [] w wr) (fun _ s7 _ => n - (intOf s7).toNat)
    case atStart => exact ⟨0, rfl, Nat.zero_le _, by rw [okA_zero], HFR.out⟩
    case round =>
      clear HFR
      obtain ⟨k, rfl, hk, rfl, hfr⟩ := hrel
      by_cases hkn : k < n
      · have hkn' : (k : Int) < (n : Int) := by omega
        obtain ⟨x4, x5⟩ := wrapUp hkn hlen
        have hms2 := meas_up hkn
        have hm3 := HM.out.frm hfr (Nat.le_refl _)
        obtain ⟨rk, hrk⟩ : ∃ r, r = B + 1 + k := ⟨_, rfl⟩
        obtain ⟨bt, hbt⟩ : ∃ b, b = (f k).testBit i := ⟨_, rfl⟩
        have m1 : wr.cell? ⟨B, k, none⟩ = some (.slice (some ⟨rk, 0, none⟩) n n) := by rw [hrk]; exact hm3.row hkn
        have m2 : wr.cell? ⟨rk, i, none⟩ = some (.bool bt) := by rw [hrk, hbt]; exact hm3.bit hkn hin
        have hnx := okA_succ A row i (!c0) k
        rw [HA.out k i hkn, ← hbt] at hnx
        have hia := has_any ad b off L cap (at0 row) (k : Int) wr (HRL.out.frm hfr (Nat.le_refl _))
        have hih : inF (at0 row) L (k : Int) = row.contains k := by rw [HL.out]; exact inF_has row k
        rw [hih] at hia
        obtain ⟨hs, hhs⟩ : ∃ x, x = row.contains k := ⟨_, rfl⟩
        rw [← hhs] at hia hnx
        clear hm3 hrk hbt hih hhs
        obtain ⟨v, hv⟩ : ∃ v, v = okA A row i (!c0) k := ⟨_, rfl⟩
        rw [← hv] at hnx ⊢
        cases bt
        · rw [Bool.not_false, Bool.true_or, Bool.and_true] at hnx
          have HKN := Lib.hid hkn
          have HMS2 := Lib.hid hms2
          have HNX := Lib.hid hnx
          have HV := Lib.hid hv
          have HFK := Lib.hid hfr
          have HIA := Lib.hid hia
          clear hia hfr hv hnx hms2 hkn
          go_wp2_with fail
          (try simp only [x4, x5])
          exact ⟨⟨k + 1, by simp, HKN.out, by rw [HNX.out], HFK.out⟩, HMS2.out⟩
        · cases hs
          · rw [Bool.not_true, Bool.false_or, Bool.and_false] at hnx
            have HKN := Lib.hid hkn
            have HMS2 := Lib.hid hms2
            have HNX := Lib.hid hnx
            have HV := Lib.hid hv
            have HFK := Lib.hid hfr
            have HIA := Lib.hid hia
            clear hia hfr hv hnx hms2 hkn
            go_wp2_with (go_at_call 66; refine HIA.out.mono ?_; rintro e9 w9 ⟨rfl, hf9⟩; replace HFK := Lib.hid (HFK.out.call hf9 HFK.out.size (by simp)); clear hf9)
            (try simp only [x4, x5])
            exact ⟨⟨k + 1, by simp, HKN.out, by rw [HNX.out], HFK.out⟩, HMS2.out⟩
          · rw [Bool.not_true, Bool.false_or, Bool.and_true] at hnx
            have HKN := Lib.hid hkn
            have HMS2 := Lib.hid hms2
            have HNX := Lib.hid hnx
            have HV := Lib.hid hv
            have HFK := Lib.hid hfr
            have HIA := Lib.hid hia
            clear hia hfr hv hnx hms2 hkn
            go_wp2_with (go_at_call 66; refine HIA.out.mono ?_; rintro e9 w9 ⟨rfl, hf9⟩; replace HFK := Lib.hid (HFK.out.call hf9 HFK.out.size (by simp)); clear hf9)
            (try simp only [x4, x5])
            exact ⟨⟨k + 1, by simp, HKN.out, by rw [HNX.out], HFK.out⟩, HMS2.out⟩
      · have hkn' : ¬ (k : Int) < (n : Int) := by omega
        obtain rfl : k = n := by omega
        have hrd : okA A row i (!c0) k = readyB k A row i := by rw [HC0.out]; exact readyB_okA k A row i
        rw [hrd]
        cases hb : readyB k A row i
        · have hno2 : ∀ j, j < i + 1 → readyB k A row j = false := fun j hj => by
            rcases Nat.lt_or_ge j i with h | h
            · exact HNO.out j h
            · obtain rfl : j = i := by omega
              exact hb
          clear hrd hb
          have HNO2 := Lib.hid hno2
          have HFR := Lib.hid hfr
          clear hfr hno2
          go_wp2_with fail
          (try simp only [y4, y5])
          exact ⟨⟨i + 1, by simp, HIN.out, HNO2.out, HFR.out⟩, HMS.out⟩
        · have hr1 : res = (i : Int) := by rw [HRES.out]; exact nextR_yes HIN.out HNO.out hb
          subst hr1
          clear hrd hb
          have HFR := Lib.hid hfr
          clear hfr
          go_wp2_with fail
          go_ret
          exact ⟨rfl, HFR.out⟩
/-- The first row, up to its t-th step. -/
def rowT (n : Nat) (A : Nat → Nat → Bool) : Nat → List Nat
  | 0 => []
  | t + 1 => match firstNext n A (rowT n A t) with
    | some i => rowT n A t ++ [i]
    | none => rowT n A t
theorem rowT_lin {n : Nat} {A : Nat → Nat → Bool} (ho : Ord n A) : ∀ t, t ≤ n → Lin n A (rowT n A t) ∧ (rowT n A t).length = t
  | 0, _ => ⟨.nil, rfl⟩
  | t + 1, h => by
    have ih := rowT_lin ho t (by omega)
    obtain ⟨i, h1, h2, h3⟩ := firstNext_some ho ih.1 (by omega)
    have h4 := (ready_iff ho).1 h3
    unfold rowT
    rw [h1]
    exact ⟨.snoc ih.1 h2 h4.1 h4.2, by simp [ih.2]⟩
theorem rowT_next {n t : Nat} {A : Nat → Nat → Bool} (ho : Ord n A) (ht : t < n) : ∃ i : Nat, nextR n A (rowT n A t) = (i : Int) ∧ i < n ∧ rowT n A (t + 1) = rowT n A t ++ [i] := by
  have ih := rowT_lin ho t (by omega)
  obtain ⟨i, h1, h2, _⟩ := firstNext_some ho ih.1 (by omega)
  refine ⟨i, ?_, h2, ?_⟩
  · unfold nextR; rw [h1]
  · rw [rowT, h1]
theorem find_congr {p q : Nat → Bool} : ∀ (l : List Nat), (∀ x, x ∈ l → p x = q x) → l.find? p = l.find? q
  | [], _ => rfl
  | x :: l, h => by
    rw [List.find?_cons, List.find?_cons, h x (by simp), find_congr l (fun y hy => h y (by simp [hy]))]
theorem rowS_T {R : Raw} {P : PL} (hP : plannedO R = some P) : ∀ t, (rowS P t).1 = rowT P.n P.behind t ∧ ∀ k, (rowS P t).2.testBit k = (rowT P.n P.behind t).contains k
  | 0 => ⟨rfl, fun k => by simp [rowS, rowT]⟩
  | t + 1 => by
    have ih := rowS_T hP t
    have hnext : nextN P (rowS P t).2 = firstNext P.n P.behind (rowT P.n P.behind t) := by
      unfold nextN firstNext
      refine find_congr _ fun k hk => ?_
      have hkn : k < P.n := by simpa using hk
      have hlt := (planned_ok hP).before k hkn
      have hlt32 : P.before k < 4294967296 := Nat.lt_of_lt_of_le hlt (Nat.pow_le_pow_right (n := 2) (i := P.n) (j := 32) (by omega) (by have := (planned_ok hP).n; omega))
      unfold readyN readyB
      rw [ih.2 k]
      congr 1
      rw [Bool.eq_iff_iff, decide_eq_true_iff, List.all_eq_true]
      constructor
      · intro h x hx
        have hxn : x < P.n := by simpa using hx
        have h1 := planned_before hP k x hxn
        cases hA : P.behind x k
        · simp
        · rw [hA] at h1
          cases hc : (rowT P.n P.behind t).contains x
          · have h2 := andN_bit (a := P.before k) (b := (rowS P t).2) hlt32 x
            rw [h, h1, ih.2 x, hc] at h2
            simp at h2
          · simp
      · intro h
        apply Nat.eq_of_testBit_eq
        intro x
        rw [andN_bit hlt32, Nat.zero_testBit, ih.2 x]
        by_cases hxn : x < P.n
        · rw [planned_before hP k x hxn]
          have h1 := h x (by simpa using hxn)
          cases hA : P.behind x k
          · simp
          · rw [hA] at h1
            simpa using h1
        · rw [Nat.testBit_lt_two_pow (Nat.lt_of_lt_of_le hlt (Nat.pow_le_pow_right (by omega) (by omega)))]
          simp
    rw [rowS, rowT, hnext]
    cases hf : firstNext P.n P.behind (rowT P.n P.behind t) with
    | none => exact ih
    | some i =>
      refine ⟨by simp [ih.1], fun k => ?_⟩
      rw [Nat.testBit_or, ih.2 k, List.contains_append, Nat.shiftLeft_eq, Nat.one_mul, Nat.testBit_two_pow]
      simp [eq_comm]
theorem rowL_T {R : Raw} {P : PL} (hP : plannedO R = some P) : rowL P = rowT P.n P.behind P.n := (rowS_T hP P.n).1
def RefRowIs (R : Raw) (w' : World) (e : Ending) : Prop := match plannedO R with
  | none => e = .returned (.tuple #[.slice none 0 0, .int .i64 2])
  | some P => ∃ v own, e = .returned (.tuple #[v, .int .i64 0]) ∧ Sl w' 3 1 v (rowL P).length (intsC (rowL P)) own
set_option maxRecDepth 100000 in
set_option maxHeartbeats 16000000 in
theorem refRow_any (q : RPos) (R : Raw) (w : World) (hr : RawAt w q R) :
    Calls Tryd.prog 40 #[.agg (rawC q R).toArray] w fun e w' => RefRowIs R w' e ∧ Frm w.heap.size [] w w' := by
  have hf0 := Tryd.func40
  obtain ⟨i0, hi0⟩ : ∃ i0, Tryd.prog.info? 3 = some i0 := ⟨_, rfl⟩
  have hzz : i0.zero = some (.int .i64 0) ∧ i0.size = 1 ∧ i0.bytes = 8 := by cases hi0; exact ⟨rfl, rfl, rfl⟩
  obtain ⟨hz0, hz1, hz2⟩ := hzz
  have HR := Lib.hid hr
  have HI0 := Lib.hid hi0
  have HZ0 := Lib.hid hz0
  have HZ1 := Lib.hid hz1
  have HZ2 := Lib.hid hz2
  clear hz2 hz1 hz0 hi0 hr
  go_enter Tryd.func40, Tryd.ntmps40
  go_upto_region 1 with fail
  refine namedC ?_; intro W hW
  obtain ⟨c, hc⟩ : ∃ c, c = w.heap.size := ⟨_, rfl⟩
  have k0 : Blk W c 66 (rawC q R) := by rw [hW, hc]; exact Blk.new w 66 (rawC q R)
  have hf : Frm w.heap.size [] w W := by rw [hW]; repeat (first | with_reducible exact Frm.refl _ _ _ | with_reducible refine Frm.drewN ?_ | with_reducible refine Frm.drew ?_ | ((with_reducible refine Frm.setCell' ?_ ?_); · first | (left; simp; done) | (right; simp; done) | (right; simp; omega)) | ((with_reducible refine Frm.alloc' ?_ ?_); · first | exact Nat.le_refl _ | (simp; done) | (simp; omega)))
  clear hW hf0
  rw [← hc]
  clear hc
  have K0 := Lib.hid k0
  have HF := Lib.hid hf
  clear hf k0
  go_wp2_with (with_reducible refine atLoad 66 rfl ?_; refine wpList_loadE rfl rfl rfl (load_raw K0.out) ?_)
  refine (refCheck_any q R W (HR.out.frm HF.out (Nat.le_refl _))).mono ?_; rintro e w1 ⟨rfl, hf1⟩
  have k0 := hf1.blk K0.out K0.out.lt (by simp)
  have hf := HF.out.call hf1 HF.out.size (by simp)
  clear hf1 K0 HF
  cases hP : plannedO R with
  | none =>
    have hres : ∀ e : Ending, e = .returned (.tuple #[.slice none 0 0, .int .i64 2]) → RefRowIs R w1 e := fun e he => by unfold RefRowIs; rw [hP]; exact he
    clear k0 hP
    have HF := Lib.hid hf
    have HRES := Lib.hid hres
    clear hres hf
    go_wp2_with fail
    refine bodyPost_ret (v := .tuple #[.slice none 0 0, .int .i64 2]) (by simp [results, Tryd.results40, go_sem]) rfl ?_
    exact ⟨HRES.out _ rfl, HF.out⟩
  | some P =>
    obtain ⟨n, hn⟩ : ∃ n, n = R.steps.length := ⟨_, rfl⟩
    obtain ⟨m, hm⟩ : ∃ n, n = R.edges.length := ⟨_, rfl⟩
    have hraw : rawC q R = [q.s.v R.starts, .slice q.sa n q.sc, .slice q.ea m q.ec] := by rw [hn, hm]; rfl
    have hPn : P.n = n := by rw [hn]; exact planned_len hP
    have ho : Ord n P.behind := by rw [← hPn]; exact planned_ord hP
    have hn12 : n ≤ 12 := by rw [hn]; exact planned_n12 hP
    obtain ⟨a, ha, haf⟩ := planned_edges hP
    rw [← hn] at ha haf
    have hbeh : ∀ i j, i < n → P.behind i j = (closeK n a n i).testBit j := fun i j hi => by unfold PL.behind; rw [hPn, haf]; simp [hi]
    have hres : ∀ (w' : World) (v : Value) (own : Option Nat), Sl w' 3 1 v n (intsC (rowT n P.behind n)) own → RefRowIs R w' (.returned (.tuple #[v, .int .i64 0])) := fun w' v own h => by
      unfold RefRowIs; rw [hP]
      refine ⟨v, own, rfl, ?_⟩
      rw [rowL_T hP, hPn, (rowT_lin ho n (Nat.le_refl _)).2]
      exact h
    have hlen : n ≤ maxLen := by unfold maxLen; omega
    rw [hraw] at k0
    have c1 : w1.cell? ⟨c, 1, none⟩ = some (.slice q.sa n q.sc) := k0.cell 1
    have c2 : w1.cell? ⟨c, 2, none⟩ = some (.slice q.ea m q.ec) := k0.cell 2
    have hah := ahead_any n hn12 R.edges q.ea q.eb q.eo q.ec a ha w1 ((HR.out.frm hf (Nat.le_refl _)).edges)
    rw [← hm] at hah
    obtain ⟨B, hB⟩ : ∃ B, B = w1.heap.size := ⟨_, rfl⟩
    rw [← hB] at hah
    clear haf hP hraw hPn ha hm
    have K0 := Lib.hid k0
    have HF := Lib.hid hf
    have HAH := Lib.hid hah
    have HB := Lib.hid hB
    have HN12 := Lib.hid hn12
    have HO := Lib.hid ho
    have HBEH := Lib.hid hbeh
    have HRES := Lib.hid hres
    have HN := Lib.hid hn
    clear hn hres hbeh ho hn12 hB hah hf k0
    go_wp2_with fail
    refine HAH.out.mono ?_; rintro e W1 ⟨rfl, hmat, hf1⟩
    rw [HB.out] at hf1
    have k0 := hf1.blk K0.out K0.out.lt (by simp)
    have hf := HF.out.call hf1 HF.out.size (by simp)
    clear hf1 K0 HF HAH c1 c2
    have K0 := Lib.hid k0
    have HF := Lib.hid hf
    have HMAT := Lib.hid hmat
    clear hmat hf k0
    go_wp2_with fail
    -- the row
    go_loopw [5] (fun s5 wr => ∃ (t : Nat) (own : Option Nat), t ≤ n ∧ Sl wr 3 1 s5 t (intsC (rowT n P.behind t)) own ∧ (∀ b, own = some b → W1.heap.size ≤ b) ∧ Frm W1.heap.size [] W1 wr) (fun s5 _ => n - lenOf s5)
    case atStart => exact ⟨0, none, Nat.zero_le _, Sl.nil _ _ _, (fun b hb => by cases hb), Frm.refl _ _ _⟩
    case round =>
      obtain ⟨L, own5, hLn, hs5, ho5, hfr⟩ := hrel
      have k1 := hfr.blk K0.out K0.out.lt (by simp)
      have c1 : wr.cell? ⟨c, 1, none⟩ = some (.slice q.sa n q.sc) := k1.cell 1
      have hTl := (rowT_lin HO.out L hLn).2
      obtain ⟨row, hrow⟩ : ∃ r, r = rowT n P.behind L := ⟨_, rfl⟩
      rw [← hrow] at hs5 hTl
      obtain ⟨ad5, b5, off5, cap5, rfl, hr5⟩ := ints_at0 (by rw [← hTl] at hs5; exact hs5)
      rw [hTl] at hs5 hr5 ⊢
      by_cases hLlt : L < n
      rotate_left
      · have hLlt' : ¬ (L : Int) < (n : Int) := by omega
        obtain rfl : L = n := by omega
        have hres := HRES.out wr (.slice ad5 L cap5) own5 (by rw [← hrow]; exact hs5)
        clear k1 hr5 ho5
        have HRS := Lib.hid hres
        have HFR := Lib.hid hfr
        clear hfr hres
        go_wp2_with fail
        refine bodyPost_ret (v := .tuple #[.slice ad5 L cap5, .int .i64 0]) (by simp [results, Tryd.results40, go_sem]) rfl ?_
        exact ⟨HRS.out, HF.out.call HFR.out HF.out.size (by simp)⟩
      have hLlt' : (L : Int) < (n : Int) := by omega
      obtain ⟨i, hi1, hi2, hi3⟩ := rowT_next HO.out hLlt
      rw [← hrow] at hi1 hi3
      obtain ⟨W2, hW2⟩ : ∃ V, V = wr := ⟨_, rfl⟩
      rw [← hW2] at hs5 hr5 hfr k1 c1 ⊢
      clear hW2
      have hnx := next_any n B (closeK n a n) P.behind HBEH.out HN12.out row ad5 b5 off5 L cap5 hTl.symm W2 (HMAT.out.frm hfr (Nat.le_refl _)) hr5
      rw [hi1] at hnx
      clear hi1 k1 hr5
      have HS5 := Lib.hid hs5
      have HO5 := Lib.hid ho5
      have HFR := Lib.hid hfr
      have HLLT := Lib.hid hLlt
      have HNX := Lib.hid hnx
      have HI3 := Lib.hid hi3
      have HROW := Lib.hid hrow
      have HTL := Lib.hid hTl
      clear hTl hrow hi3 hnx hLlt hfr ho5 hs5
      go_wp2_with (first | (go_at_call 74; refine HNX.out.mono ?_; rintro e9 w9 ⟨rfl, hf9⟩; replace HS5 := Lib.hid (HS5.out.frm hf9 (fun b hb => HS5.out.lt b hb) (by simp)); replace HFR := Lib.hid (HFR.out.call hf9 HFR.out.size (by simp)); clear hf9) | (at_builtin; refine hold ?_; intro qG hG))
      refine hG.1 ?_; clear hG qG
      (try clear c1)
      refine wpList_append_sl _ rfl (.tmp 21) (.tmp 25) 26 rfl 3 i0 _ 1 8 Tryd.underlying26 HI0.out HZ0.out HZ1.out HZ2.out rfl _ L (intsC row) own5 rfl (HS5.out.alloc _) ⟨w9.heap.size, 0, none⟩ 1 1 [.int .i64 (i : Int)] rfl rfl (news_alloc _ [.int .i64 (i : Int)] _) (by simp [Value.oneCell']) (by have := HLLT.out; have := HN12.out; unfold maxLen; omega) (by have := HLLT.out; have := HN12.out; omega) ?_
      intro v8 w8 own8 hs8 hf8 ho8
      have hf9 : Frm W1.heap.size [] W1 w8 := (HFR.out.alloc HFR.out.size _).call hf8 (by have := HFR.out.size; simp; omega) (fun x hx hm => by have := HO5.out x (by simpa using hm); omega)
      have ho9 : ∀ b, own8 = some b → W1.heap.size ≤ b := fun b hb => by
        rcases ho8 with h | ⟨g, h, hg⟩
        · exact HO5.out b (by rw [← h]; exact hb)
        · rw [hb] at h; cases h; have := HFR.out.size; simp at hg; omega
      have hs9 : Sl w8 3 1 v8 (L + 1) (intsC (rowT n P.behind (L + 1))) own8 := by rw [HI3.out, intsC_snoc]; exact hs8
      obtain ⟨ad8, cp8, rfl⟩ := hs9.form
      have hfin : ∃ (t : Nat) (own : Option Nat), t ≤ n ∧ Sl w8 3 1 (.slice ad8 (L + 1) cp8) t (intsC (rowT n P.behind t)) own ∧ (∀ b, own = some b → W1.heap.size ≤ b) ∧ Frm W1.heap.size [] W1 w8 := ⟨L + 1, own8, HLLT.out, hs9, ho9, hf9⟩
      have hmes : n - lenOf (.slice ad8 (L + 1) cp8) < n - lenOf (.slice ad5 L cap5) := by
        show n - (L + 1) < n - L
        have := HLLT.out
        omega
      clear hs8 hf8 ho8 hf9 ho9 hs9
      have HFIN := Lib.hid hfin
      have HMES := Lib.hid hmes
      clear hmes hfin
      go_wp2_with fail
      exact ⟨HFIN.out, HMES.out⟩
end Go.Proofs.YtfmigicmfolbjaaDoor
