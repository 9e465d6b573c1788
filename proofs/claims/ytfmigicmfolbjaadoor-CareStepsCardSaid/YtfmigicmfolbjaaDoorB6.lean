/-
  Texts S2, S3, S4, S5 of this claim, one behind the other.
-/
import Derived.Test.YtfmigicmfolbjaaDoorB5
namespace Go.Proofs.YtfmigicmfolbjaaDoor
set_option linter.all false
set_option linter.unusedSimpArgs false
set_option linter.unusedVariables false
open Go.RowKit Go.Shelf

def boxOf (w : World) (sb : Nat) : Nat := match w.cell? ⟨sb, 0, none⟩ with
  | some v => (intOf v).toNat
  | none => 0
theorem boxOf_eq {w : World} {sb st p : Nat} (h : Blk w sb st [.int .u32 (p : Int)]) : boxOf w sb = p := by
  have := h.cell 0
  unfold boxOf
  rw [this]
  simp [intOf]
attribute [local go_sem] Oper.semAt_some
set_option maxRecDepth 100000 in
set_option maxHeartbeats 8000000 in
theorem iterS_any (sb s n N m l : Nat) (S0 : List Nat) (w0 W : World) (hg : Glob w0) (hf : Frm w0.heap.size [] w0 W) (hb : Blk W sb 119 [.int .u32 (s : Int)]) (hwT : w0.heap.size ≤ sb) (hN : N ≤ W.heap.size) (hp : sb < N) (hn : sb ∉ S0) (hS0 : ∀ x, x ∈ S0 → w0.heap.size ≤ x)
    (hn2 : n ≤ 30) (hs : s < 2 ^ n) (cont : Nat → Bool) (J Jx : Nat → World → Prop) (hJ : ∀ i A B, N ≤ A.heap.size → J i A → Frm A.heap.size [sb] A B → J i B)
    (hY : ∀ i A0 A, i < (bitsOf n s).length → N ≤ A0.heap.size → J i A0 → Frm A0.heap.size [sb] A0 A → YieldAt Fence.wide m Tryd.prog l #[.int .i64 (((bitsOf n s).getD i 0 : Nat) : Int)] A fun e A' =>
      KeepY N S0 A0.heap.size A A' ∧ ((cont i = true ∧ e = .returned (.bool true) ∧ J (i + 1) A') ∨ (cont i = false ∧ e = .returned (.bool false) ∧ Jx i A')))
    (h0 : J 0 W) :
    Calls Tryd.prog 113 #[.func (.yield l) #[] #[], .pointer (some ⟨sb, 0, none⟩)] W fun e W' => (∃ v, e = .returned v) ∧ Frm N (sb :: S0) W W' ∧
      ((J (bitsOf n s).length W' ∧ ∀ i, i < (bitsOf n s).length → cont i = true) ∨ ∃ i, i < (bitsOf n s).length ∧ (∀ k, k < i → cont k = true) ∧ cont i = false ∧ Jx i W') := by
  have hf0 := Tryd.func113
  have htop : 2 ^ n < 4294967296 := Nat.lt_of_le_of_lt (Nat.pow_le_pow_right (by omega) hn2) (by decide)
  obtain ⟨len, hlen⟩ : ∃ k, k = (bitsOf n s).length := ⟨_, rfl⟩
  rw [← hlen] at hY ⊢
  have HG := Lib.hid hg
  have HF := Lib.hid hf
  have HB := Lib.hid hb
  have HWT := Lib.hid hwT
  have HN := Lib.hid hN
  have HP := Lib.hid hp
  have HNN := Lib.hid hn
  have HS0 := Lib.hid hS0
  have HN2 := Lib.hid hn2
  have HS := Lib.hid hs
  have HJ := Lib.hid hJ
  have HY := Lib.hid hY
  have H0 := Lib.hid h0
  have HTOP := Lib.hid htop
  have HLEN := Lib.hid hlen
  clear hlen htop h0 hY hJ hs hn2 hS0 hn hp hN hwT hb hf hg
  go_enter Tryd.func113, Tryd.ntmps113
  go_wp2_with fail
  go_loopw [] (fun wr => ∃ p : Nat, p < 2 ^ n ∧ ∃ A : List Nat, A ++ bitsOf n p = bitsOf n s ∧ J A.length wr ∧ (∀ k, k < A.length → cont k = true) ∧ Blk wr sb 119 [.int .u32 (p : Int)] ∧ Frm N (sb :: S0) W wr) (fun wr => boxOf wr sb)
  case atStart => exact ⟨s, HS.out, [], rfl, H0.out, fun k hk => by simp at hk, HB.out, Frm.refl _ _ _⟩
  case round =>
    obtain ⟨p, hp2, A, hA, hJj, hno, hbr, hfr⟩ := hrel
    have c0 := hbr.cell 0
    have f0 := hbr.free 0
    simp only [List.getElem?_cons_zero] at c0
    by_cases hp0 : p = 0
    · subst hp0
      rw [bitsOf_zero, List.append_nil] at hA
      have hal : A.length = len := by rw [hA]; exact HLEN.out.symm
      rw [hal] at hJj hno
      have HFR := Lib.hid hfr
      have HJJ := Lib.hid hJj
      have HNO := Lib.hid hno
      have HA := Lib.hid hA
      have HAL := Lib.hid hal
      have HP2 := Lib.hid hp2
      have HBR := Lib.hid hbr
      clear hbr hp2 hal hA hno hJj hfr
      go_wp2_with fail
      go_end0
      exact ⟨⟨_, rfl⟩, HFR.out, .inl ⟨HJJ.out, HNO.out⟩⟩
    · obtain ⟨i, q, hiq⟩ := low_bit p (by omega)
      have hpw : 0 < 2 ^ i := Nat.pow_pos (by omega)
      have hin : i < n := low_lt (n := n) (i := i) (q := q) (by rw [← hiq]; exact hp2)
      obtain ⟨r, hrq⟩ : ∃ r, r = 2 ^ (i + 1) * q := ⟨_, rfl⟩
      have hrp : r < p := by rw [hrq, hiq]; omega
      have htop := HTOP.out
      have hand : bits BinOp.and IntKind.u32 (p : Int) (((p : Int) - 1) % (4294967296 : Int)) = ((r : Nat) : Int) := by
        have e1 : ((p : Int) - 1) % (4294967296 : Int) = ((p - 1 : Nat) : Int) := by omega
        rw [e1, and_u32 (by omega) (by omega)]
        have := pop_low (i := i) (q := q)
        rw [← hiq, ← hrq] at this
        exact congrArg (fun x : Nat => (x : Int)) this
      have hbo : bitsOf n p = i :: bitsOf n r := by rw [hrq, hiq]; exact bitsOf_pop hin
      have hA2 : (A ++ [i]) ++ bitsOf n r = bitsOf n s := by rw [List.append_assoc, ← hA, hbo]; rfl
      have hjl : A.length < len := by rw [HLEN.out, ← hA2]; simp
      have hat : (bitsOf n s).getD A.length 0 = i := by rw [← hA, hbo]; simp
      have htz : ∀ X, Frm w0.heap.size [] w0 X → Calls Tryd.prog 103 #[.int .u32 (p : Int)] X fun e w' => e = .returned (.int .i64 (i : Int)) ∧ X = w' := fun X hX => tz32_any p i q hiq (by omega) X (HG.out.frm hX (Nat.le_refl _))
      have hNr : N ≤ wr.heap.size := Nat.le_trans HN.out hfr.size
      have fw : Frm w0.heap.size [] w0 wr := HF.out.call hfr (by have := HWT.out; have := HP.out; omega) (fun x hx hm => by
        rcases List.mem_cons.1 hm with rfl | hm
        · have := HWT.out; omega
        · have := HS0.out x hm; omega)
      obtain ⟨fn, tms, asg, bdy, hy1, hR1⟩ := HY.out A.length wr wr hjl hNr hJj (Frm.refl _ _ _)
      rw [hat] at hy1
      have hbox := boxOf_eq hbr
      have hpn : ((p : Int) != 0) = true := by simp; omega
      have hpn2 : ¬ (p : Int) = 0 := by omega
      have htzr := htz wr fw
      clear htop hiq hpw hrq hbo hA
      have HFR := Lib.hid hfr
      have HJJ := Lib.hid hJj
      have HNO := Lib.hid hno
      have HA2 := Lib.hid hA2
      have HP2 := Lib.hid hp2
      have HBR := Lib.hid hbr
      have HR1 := Lib.hid hR1
      have HJL := Lib.hid hjl
      have HAT := Lib.hid hat
      have HTZ := Lib.hid htz
      have HNR := Lib.hid hNr
      have FW := Lib.hid fw
      have HBOX := Lib.hid hbox
      have HRP := Lib.hid hrp
      have HTZR := Lib.hid htzr
      have HIN := Lib.hid hin
      clear hin htzr hrp hbox fw hNr htz hat hjl hR1 hbr hp2 hA2 hno hJj hfr
      go_upto_region 2 with fail
      refine (wpIn_wide (n := m + 1)).1 ?_
      refine wpIn_region_lit ?_
      gi_wp2
      refine ⟨trivial, callsIn_wide.2 (HTZR.out.mono ?_)⟩; rintro e w' ⟨rfl, rfl⟩
      gi_wp2
      refine HR1.out.mono ?_; rintro e w4 ⟨hf4, (⟨hc, rfl, hJ4⟩ | ⟨hc, rfl, hJx4⟩)⟩
      · have hfr4 : Frm N (sb :: S0) W w4 := HFR.out.trans (hf4.frm.narrow fun k hk => List.mem_cons_of_mem _ hk)
        have hb4 := hf4.frm.blk HBR.out HP.out HNN.out
        have hN4 : N ≤ w4.heap.size := Nat.le_trans HNR.out hf4.frm.size
        have c0 : w4.cell? ⟨sb, 0, none⟩ = some (.int .u32 (p : Int)) := hb4.cell 0
        have f0 : w4.frozen? ⟨sb, 0, none⟩ = false := hb4.free 0
        clear hf4
        have HFR4 := Lib.hid hfr4
        have HB4 := Lib.hid hb4
        have HJ4 := Lib.hid hJ4
        have HN4 := Lib.hid hN4
        have HC := Lib.hid hc
        clear hc hN4 hJ4 hb4 hfr4
        gi_wp2
        go_wp2_with fail
        have hsb : (w4.setCell ⟨sb, 0, none⟩ (.int .u32 (r : Int))) = w4.setCell ⟨sb, 0, none⟩ (.int .u32 (r : Int)) := rfl
        have hb5 : Blk (w4.setCell ⟨sb, 0, none⟩ (.int .u32 (r : Int))) sb 119 [.int .u32 (r : Int)] := HB4.out.set 0 (.int .u32 (r : Int))
        have hf5 : Frm w4.heap.size [sb] w4 (w4.setCell ⟨sb, 0, none⟩ (.int .u32 (r : Int))) := (Frm.refl _ _ w4).setCell (p := ⟨sb, 0, none⟩) (.inl (by simp)) _
        have hf6 : Frm N (sb :: S0) W (w4.setCell ⟨sb, 0, none⟩ (.int .u32 (r : Int))) := HFR4.out.setCell (p := ⟨sb, 0, none⟩) (.inl (by simp)) _
        have hJ5 := HJ.out _ _ _ HN4.out HJ4.out hf5
        have hno2 : ∀ k, k < (A ++ [i]).length → cont k = true := fun k hk => by
          rcases Nat.lt_or_ge k A.length with h | h
          · exact HNO.out k h
          · have : k = A.length := by simp at hk; omega
            rw [this]; exact HC.out
        have hbx := boxOf_eq hb5
        exact ⟨⟨r, by have := HRP.out; have := HP2.out; omega, A ++ [i], HA2.out, by simpa using hJ5, hno2, hb5, hf6⟩, by rw [hbx, HBOX.out]; exact HRP.out⟩
      · have hfr4 : Frm N (sb :: S0) W w4 := HFR.out.trans (hf4.frm.narrow fun k hk => List.mem_cons_of_mem _ hk)
        clear hf4
        have HFR4 := Lib.hid hfr4
        have HJX4 := Lib.hid hJx4
        have HC := Lib.hid hc
        clear hc hJx4 hfr4
        gi_wp2
        go_wp2_with fail
        refine bodyPost_ret (results_none Tryd.results113 _ _ _) rfl ?_
        exact ⟨⟨_, rfl⟩, HFR4.out, .inr ⟨_, HJL.out, HNO.out, HC.out, HJX4.out⟩⟩
attribute [local go_sem] Oper.semAt_some
set_option maxRecDepth 100000 in
set_option maxHeartbeats 8000000 in
theorem iterF_any (sb s n N m l : Nat) (S0 : List Nat) (w0 W : World) (hg : Glob w0) (hf : Frm w0.heap.size [] w0 W) (hb : Blk W sb 112 [.int .u32 (s : Int)]) (hwT : w0.heap.size ≤ sb) (hN : N ≤ W.heap.size) (hp : sb < N) (hn : sb ∉ S0) (hS0 : ∀ x, x ∈ S0 → w0.heap.size ≤ x)
    (hn2 : n ≤ 30) (hs : s < 2 ^ n) (cont : Nat → Bool) (J Jx : Nat → World → Prop) (hJ : ∀ i A B, N ≤ A.heap.size → J i A → Frm A.heap.size [sb] A B → J i B)
    (hY : ∀ i A0 A, i < (bitsOf n s).length → N ≤ A0.heap.size → J i A0 → Frm A0.heap.size [sb] A0 A → YieldAt Fence.wide m Tryd.prog l #[.int .i64 (((bitsOf n s).getD i 0 : Nat) : Int)] A fun e A' =>
      KeepY N S0 A0.heap.size A A' ∧ ((cont i = true ∧ e = .returned (.bool true) ∧ J (i + 1) A') ∨ (cont i = false ∧ e = .returned (.bool false) ∧ Jx i A')))
    (h0 : J 0 W) :
    Calls Tryd.prog 102 #[.func (.yield l) #[] #[], .pointer (some ⟨sb, 0, none⟩)] W fun e W' => (∃ v, e = .returned v) ∧ Frm N (sb :: S0) W W' ∧
      ((J (bitsOf n s).length W' ∧ ∀ i, i < (bitsOf n s).length → cont i = true) ∨ ∃ i, i < (bitsOf n s).length ∧ (∀ k, k < i → cont k = true) ∧ cont i = false ∧ Jx i W') := by
  have hf0 := Tryd.func102
  have htop : 2 ^ n < 4294967296 := Nat.lt_of_le_of_lt (Nat.pow_le_pow_right (by omega) hn2) (by decide)
  obtain ⟨len, hlen⟩ : ∃ k, k = (bitsOf n s).length := ⟨_, rfl⟩
  rw [← hlen] at hY ⊢
  have HG := Lib.hid hg
  have HF := Lib.hid hf
  have HB := Lib.hid hb
  have HWT := Lib.hid hwT
  have HN := Lib.hid hN
  have HP := Lib.hid hp
  have HNN := Lib.hid hn
  have HS0 := Lib.hid hS0
  have HN2 := Lib.hid hn2
  have HS := Lib.hid hs
  have HJ := Lib.hid hJ
  have HY := Lib.hid hY
  have H0 := Lib.hid h0
  have HTOP := Lib.hid htop
  have HLEN := Lib.hid hlen
  clear hlen htop h0 hY hJ hs hn2 hS0 hn hp hN hwT hb hf hg
  go_enter Tryd.func102, Tryd.ntmps102
  go_wp2_with fail
  go_loopw [] (fun wr => ∃ p : Nat, p < 2 ^ n ∧ ∃ A : List Nat, A ++ bitsOf n p = bitsOf n s ∧ J A.length wr ∧ (∀ k, k < A.length → cont k = true) ∧ Blk wr sb 112 [.int .u32 (p : Int)] ∧ Frm N (sb :: S0) W wr) (fun wr => boxOf wr sb)
  case atStart => exact ⟨s, HS.out, [], rfl, H0.out, fun k hk => by simp at hk, HB.out, Frm.refl _ _ _⟩
  case round =>
    obtain ⟨p, hp2, A, hA, hJj, hno, hbr, hfr⟩ := hrel
    have c0 := hbr.cell 0
    have f0 := hbr.free 0
    simp only [List.getElem?_cons_zero] at c0
    by_cases hp0 : p = 0
    · subst hp0
      rw [bitsOf_zero, List.append_nil] at hA
      have hal : A.length = len := by rw [hA]; exact HLEN.out.symm
      rw [hal] at hJj hno
      have HFR := Lib.hid hfr
      have HJJ := Lib.hid hJj
      have HNO := Lib.hid hno
      have HA := Lib.hid hA
      have HAL := Lib.hid hal
      have HP2 := Lib.hid hp2
      have HBR := Lib.hid hbr
      clear hbr hp2 hal hA hno hJj hfr
      go_wp2_with fail
      go_end0
      exact ⟨⟨_, rfl⟩, HFR.out, .inl ⟨HJJ.out, HNO.out⟩⟩
    · obtain ⟨i, q, hiq⟩ := low_bit p (by omega)
      have hpw : 0 < 2 ^ i := Nat.pow_pos (by omega)
      have hin : i < n := low_lt (n := n) (i := i) (q := q) (by rw [← hiq]; exact hp2)
      obtain ⟨r, hrq⟩ : ∃ r, r = 2 ^ (i + 1) * q := ⟨_, rfl⟩
      have hrp : r < p := by rw [hrq, hiq]; omega
      have htop := HTOP.out
      have hand : bits BinOp.and IntKind.u32 (p : Int) (((p : Int) - 1) % (4294967296 : Int)) = ((r : Nat) : Int) := by
        have e1 : ((p : Int) - 1) % (4294967296 : Int) = ((p - 1 : Nat) : Int) := by omega
        rw [e1, and_u32 (by omega) (by omega)]
        have := pop_low (i := i) (q := q)
        rw [← hiq, ← hrq] at this
        exact congrArg (fun x : Nat => (x : Int)) this
      have hbo : bitsOf n p = i :: bitsOf n r := by rw [hrq, hiq]; exact bitsOf_pop hin
      have hA2 : (A ++ [i]) ++ bitsOf n r = bitsOf n s := by rw [List.append_assoc, ← hA, hbo]; rfl
      have hjl : A.length < len := by rw [HLEN.out, ← hA2]; simp
      have hat : (bitsOf n s).getD A.length 0 = i := by rw [← hA, hbo]; simp
      have htz : ∀ X, Frm w0.heap.size [] w0 X → Calls Tryd.prog 103 #[.int .u32 (p : Int)] X fun e w' => e = .returned (.int .i64 (i : Int)) ∧ X = w' := fun X hX => tz32_any p i q hiq (by omega) X (HG.out.frm hX (Nat.le_refl _))
      have hNr : N ≤ wr.heap.size := Nat.le_trans HN.out hfr.size
      have fw : Frm w0.heap.size [] w0 wr := HF.out.call hfr (by have := HWT.out; have := HP.out; omega) (fun x hx hm => by
        rcases List.mem_cons.1 hm with rfl | hm
        · have := HWT.out; omega
        · have := HS0.out x hm; omega)
      obtain ⟨fn, tms, asg, bdy, hy1, hR1⟩ := HY.out A.length wr wr hjl hNr hJj (Frm.refl _ _ _)
      rw [hat] at hy1
      have hbox := boxOf_eq hbr
      have hpn : ((p : Int) != 0) = true := by simp; omega
      have hpn2 : ¬ (p : Int) = 0 := by omega
      have htzr := htz wr fw
      clear htop hiq hpw hrq hbo hA
      have HFR := Lib.hid hfr
      have HJJ := Lib.hid hJj
      have HNO := Lib.hid hno
      have HA2 := Lib.hid hA2
      have HP2 := Lib.hid hp2
      have HBR := Lib.hid hbr
      have HR1 := Lib.hid hR1
      have HJL := Lib.hid hjl
      have HAT := Lib.hid hat
      have HTZ := Lib.hid htz
      have HNR := Lib.hid hNr
      have FW := Lib.hid fw
      have HBOX := Lib.hid hbox
      have HRP := Lib.hid hrp
      have HTZR := Lib.hid htzr
      have HIN := Lib.hid hin
      clear hin htzr hrp hbox fw hNr htz hat hjl hR1 hbr hp2 hA2 hno hJj hfr
      go_upto_region 2 with fail
      refine (wpIn_wide (n := m + 1)).1 ?_
      refine wpIn_region_lit ?_
      gi_wp2
      refine ⟨trivial, callsIn_wide.2 (HTZR.out.mono ?_)⟩; rintro e w' ⟨rfl, rfl⟩
      gi_wp2
      refine HR1.out.mono ?_; rintro e w4 ⟨hf4, (⟨hc, rfl, hJ4⟩ | ⟨hc, rfl, hJx4⟩)⟩
      · have hfr4 : Frm N (sb :: S0) W w4 := HFR.out.trans (hf4.frm.narrow fun k hk => List.mem_cons_of_mem _ hk)
        have hb4 := hf4.frm.blk HBR.out HP.out HNN.out
        have hN4 : N ≤ w4.heap.size := Nat.le_trans HNR.out hf4.frm.size
        have c0 : w4.cell? ⟨sb, 0, none⟩ = some (.int .u32 (p : Int)) := hb4.cell 0
        have f0 : w4.frozen? ⟨sb, 0, none⟩ = false := hb4.free 0
        clear hf4
        have HFR4 := Lib.hid hfr4
        have HB4 := Lib.hid hb4
        have HJ4 := Lib.hid hJ4
        have HN4 := Lib.hid hN4
        have HC := Lib.hid hc
        clear hc hN4 hJ4 hb4 hfr4
        gi_wp2
        go_wp2_with fail
        have hsb : (w4.setCell ⟨sb, 0, none⟩ (.int .u32 (r : Int))) = w4.setCell ⟨sb, 0, none⟩ (.int .u32 (r : Int)) := rfl
        have hb5 : Blk (w4.setCell ⟨sb, 0, none⟩ (.int .u32 (r : Int))) sb 112 [.int .u32 (r : Int)] := HB4.out.set 0 (.int .u32 (r : Int))
        have hf5 : Frm w4.heap.size [sb] w4 (w4.setCell ⟨sb, 0, none⟩ (.int .u32 (r : Int))) := (Frm.refl _ _ w4).setCell (p := ⟨sb, 0, none⟩) (.inl (by simp)) _
        have hf6 : Frm N (sb :: S0) W (w4.setCell ⟨sb, 0, none⟩ (.int .u32 (r : Int))) := HFR4.out.setCell (p := ⟨sb, 0, none⟩) (.inl (by simp)) _
        have hJ5 := HJ.out _ _ _ HN4.out HJ4.out hf5
        have hno2 : ∀ k, k < (A ++ [i]).length → cont k = true := fun k hk => by
          rcases Nat.lt_or_ge k A.length with h | h
          · exact HNO.out k h
          · have : k = A.length := by simp at hk; omega
            rw [this]; exact HC.out
        have hbx := boxOf_eq hb5
        exact ⟨⟨r, by have := HRP.out; have := HP2.out; omega, A ++ [i], HA2.out, by simpa using hJ5, hno2, hb5, hf6⟩, by rw [hbx, HBOX.out]; exact HRP.out⟩
      · have hfr4 : Frm N (sb :: S0) W w4 := HFR.out.trans (hf4.frm.narrow fun k hk => List.mem_cons_of_mem _ hk)
        clear hf4
        have HFR4 := Lib.hid hfr4
        have HJX4 := Lib.hid hJx4
        have HC := Lib.hid hc
        clear hc hJx4 hfr4
        gi_wp2
        go_wp2_with fail
        refine bodyPost_ret (results_none Tryd.results102 _ _ _) rfl ?_
        exact ⟨⟨_, rfl⟩, HFR4.out, .inr ⟨_, HJL.out, HNO.out, HC.out, HJX4.out⟩⟩
end Go.Proofs.YtfmigicmfolbjaaDoor

namespace Go.Proofs.YtfmigicmfolbjaaDoor
set_option linter.all false
set_option linter.unusedSimpArgs false
set_option linter.unusedVariables false
open Go.RowKit Go.Shelf
section
variable {P : Program}
theorem wpOpIn_of {n l i : Nat} {ops : Array Oper} {Q : Exit → Act → World → Prop} (hLO : ¬ LetsOut Q) (hd : noDefer ops = true) {K K' : Act → World → Prop} (hK : ∀ a w, K a w → K' a w) {a : Act} {w : World} (h : wpOp P ops Q i K a w) : wpOpIn (Fence.wide.inRound l) n P ops Q i K' a w := by
  unfold wpOp at h
  unfold wpOpIn
  split
  · rename_i ho
    rw [ho] at h
    exact hK _ _ h
  · rename_i o ho
    rw [ho] at h
    dsimp only at h
    split
    · rename_i hw
      rw [if_pos hw] at h
      rcases h with h | h
      · exact opIn_of (fun c hc => noDefer_spec hd i o ho c hc) hK h
      · exact absurd h.2 hLO
    · rename_i hw
      rw [if_neg hw] at h
      exact ⟨fun _ _ => trivial, hK _ _ h⟩
theorem wpAnyIn_of {n l : Nat} {ops : Array Oper} {Q : Exit → Act → World → Prop} (hLO : ¬ LetsOut Q) (hd : noDefer ops = true) : ∀ (fuel : Nat) (listed : Array Bool) (a : Act) (w : World), wpAny P .any ops Q fuel listed a w → wpAnyIn (Fence.wide.inRound l) n P .any ops Q fuel listed a w
  | 0, _, _, _, h => h
  | fuel + 1, listed, a, w, h => ⟨h.1, fun i hi => wpOpIn_of hLO hd (fun a' w' h' => wpAnyIn_of hLO hd fuel _ a' w' h') (h.2 i hi)⟩
/-- A region of a round that draws its order: walked as outside. -/
theorem regionIn_leftL {n l id : Nat} {xs : List Oper} {Q : Exit → Act → World → Prop} {a : Act} {w : World} (hLO : ¬ LetsOut Q) (hd : noDefer xs.toArray = true) (S : World → Prop) (t : Nat) (hm : P.follows .mixedOrders = true) (h : LeftL P xs Q S t [] a w.drew) :
    (Code.region id xs.toArray true).wpIn (Fence.wide.inRound l) n P Q a w :=
  wpIn_region_any hm (wpAnyIn_of hLO hd _ _ _ _ (wpAny_ofT _ _ _ _ (by simpa [LeftL, doneOf] using h)))
end
/-- A plan: what holds at first; of each step what it needs, makes and ends; the steps ahead of it and behind it. -/
structure PL where
  start : Nat
  n : Nat
  need : Nat → Nat
  add : Nat → Nat
  ends : Nat → Nat
  before : Nat → Nat
  after : Nat → Nat
def PL.act (P : PL) (i : Nat) : List Value := [.int .u32 (P.need i : Int), .int .u32 (P.add i : Int), .int .u32 (P.ends i : Int)]
structure PLOK (P : PL) : Prop where
  n : P.n ≤ 12
  start : P.start < 2 ^ 16
  need : ∀ i, i < P.n → P.need i < 2 ^ 16
  add : ∀ i, i < P.n → P.add i < 2 ^ 16
  ends : ∀ i, i < P.n → P.ends i < 2 ^ 16
  before : ∀ i, i < P.n → P.before i < 2 ^ P.n
  after : ∀ i, i < P.n → P.after i < 2 ^ P.n
/-- Where a plan's parts lie. -/
structure PP where
  a1 : Option Addr
  b1 : Nat
  o1 : Nat
  c1 : Nat
  a2 : Option Addr
  b2 : Nat
  o2 : Nat
  c2 : Nat
  a3 : Option Addr
  b3 : Nat
  o3 : Nat
  c3 : Nat
def planC (P : PL) (q : PP) : List Value := [.int .u32 (P.start : Int), .slice q.a1 P.n q.c1, .slice q.a2 P.n q.c2, .slice q.a3 P.n q.c3]
structure PlAt (w : World) (pb : Nat) (q : PP) (P : PL) : Prop where
  box : Blk w pb 116 (planC P q)
  acts : Rw w 3 q.a1 q.b1 q.o1 P.n P.act
  bef : Rw w 1 q.a2 q.b2 q.o2 P.n fun i => [.int .u32 (P.before i : Int)]
  aft : Rw w 1 q.a3 q.b3 q.o3 P.n fun i => [.int .u32 (P.after i : Int)]
theorem PlAt.frm {w w' : World} {pb B : Nat} {q : PP} {P : PL} (h : PlAt w pb q P) (hf : Frm B [] w w') (hB : w.heap.size ≤ B) : PlAt w' pb q P :=
  ⟨hf.blk h.box (Nat.lt_of_lt_of_le h.box.lt hB) (by simp), h.acts.frm hf hB, h.bef.frm hf hB, h.aft.frm hf hB⟩
theorem Rw.cell1 {w : World} {ad : Option Addr} {b off n : Nat} {F : Nat → Int} (h : Rw w 1 ad b off n fun i => [.int .u32 (F i)]) {i : Nat} (hi : i < n) : w.cell? ⟨b, off + i, none⟩ = some (.int .u32 (F i)) := by
  have := h.at_ i hi 0 _ rfl
  simpa using this
end Go.Proofs.YtfmigicmfolbjaaDoor

namespace Go.Proofs.YtfmigicmfolbjaaDoor
set_option linter.all false
set_option linter.unusedSimpArgs false
set_option linter.unusedVariables false
open Go.RowKit Go.Shelf

set_option maxRecDepth 100000 in
set_option maxHeartbeats 4000000 in
theorem everything_any (pb : Nat) (q : PP) (P : PL) (hok : PLOK P) (w : World) (hp : PlAt w pb q P) : Calls Tryd.prog 69 #[.pointer (some ⟨pb, 0, none⟩)] w fun e w' => e = .returned (.int .u32 ((2 ^ P.n - 1 : Nat) : Int)) ∧ w = w' := by
  have hf0 := Tryd.func69
  have hn := hok.n
  obtain ⟨n, hnn⟩ : ∃ n, n = P.n := ⟨_, rfl⟩
  rw [← hnn] at hn ⊢
  have c1 : w.cell? ⟨pb, 1, none⟩ = some (.slice q.a1 n q.c1) := by rw [hnn]; exact hp.box.cell 1
  have hpw : 0 < 2 ^ n := Nat.pow_pos (by omega)
  have hE : (((2 : Int) ^ min n 32 % (4294967296 : Int)) - 1) % (4294967296 : Int) = ((2 ^ n - 1 : Nat) : Int) := by
    rw [shl32 (by omega), Nat.shiftLeft_eq, Nat.one_mul]
    have : (2 : Nat) ^ n < 2 ^ 32 := Nat.pow_lt_pow_right (by omega) (by omega)
    omega
  have z1 : (0 : Int) ≤ (n : Int) := by omega
  have z2 : ¬ (n : Int) < 0 := by omega
  clear hok hp hnn hpw
  have HN := Lib.hid hn
  clear hn
  go_enter Tryd.func69, Tryd.ntmps69
  go_wp2_with fail
  go_ret
  exact ⟨by first | rfl | (rw [← hE]; rfl), rfl⟩
set_option maxRecDepth 100000 in
set_option maxHeartbeats 4000000 in
theorem adds_any (fb f : Nat) (P : PL) (i : Nat) (hi : P.add i < 2 ^ 16) (hf : f < 16) (w : World) (hb : Blk w fb 126 [.int .i64 (f : Int)]) : Calls Tryd.prog 104 #[.agg (P.act i).toArray, .pointer (some ⟨fb, 0, none⟩)] w fun e w' => e = .returned (.bool ((P.add i).testBit f)) ∧ Frm w.heap.size [] w w' := by
  have hf0 := Tryd.func104
  have hlt := hb.lt
  go_enter Tryd.func104, Tryd.ntmps104
  go_upto_region 1 with fail
  refine namedC ?_; intro W hW
  have hB : Blk W w.heap.size 118 (P.act i) := by rw [hW]; exact Blk.new w 118 (P.act i)
  have hfr : Frm w.heap.size [] w W := by rw [hW]; repeat (first | with_reducible exact Frm.refl _ _ _ | with_reducible refine Frm.drewN ?_ | with_reducible refine Frm.drew ?_ | ((with_reducible refine Frm.setCell' ?_ ?_); · first | (left; simp; done) | (right; simp; done) | (right; simp; omega)) | ((with_reducible refine Frm.alloc' ?_ ?_); · first | exact Nat.le_refl _ | (simp; done) | (simp; omega)))
  have c1 : W.cell? ⟨w.heap.size, 1, none⟩ = some (.int .u32 (P.add i : Int)) := hB.cell 1
  have c2 : W.cell? ⟨fb, 0, none⟩ = some (.int .i64 (f : Int)) := (hfr.blk hb hb.lt (by simp)).cell 0
  clear hW hB hb hf0
  have HFR := Lib.hid hfr
  have HLT := Lib.hid hlt
  clear hlt hfr
  go_wp2_with (go_at_call 105; refine (hasF_any (P.add i) f (by omega) (by omega) _).mono ?_; rintro e w' ⟨rfl, rfl⟩)
  go_ret
  exact ⟨rfl, HFR.out⟩
end Go.Proofs.YtfmigicmfolbjaaDoor

namespace Go.Proofs.YtfmigicmfolbjaaDoor
set_option linter.all false
set_option linter.unusedSimpArgs false
set_option linter.unusedVariables false
open Go.RowKit Go.Shelf

theorem info118 : (Tryd.prog.info? 118).map (fun i => i.size) = some 3 := by kernel_rfl
def contA (P : PL) (f : Nat) (A : List Nat) (i : Nat) : Bool := !((P.add (A.getD i 0)).testBit f)
def anyA (P : PL) (f : Nat) (A : List Nat) : Bool := A.any fun j => (P.add j).testBit f
theorem anyA_no {P : PL} {f : Nat} {A : List Nat} (h : ∀ i, i < A.length → contA P f A i = true) : anyA P f A = false := by
  unfold anyA
  rw [List.any_eq_false]
  intro x hx
  obtain ⟨i, hi, rfl⟩ := List.getElem_of_mem hx
  have := h i hi
  unfold contA at this
  simpa [List.getD_eq_getElem?_getD, hi] using this
theorem anyA_yes {P : PL} {f : Nat} {A : List Nat} {i : Nat} (hi : i < A.length) (h : contA P f A i = false) : anyA P f A = true := by
  unfold anyA
  rw [List.any_eq_true]
  unfold contA at h
  exact ⟨A.getD i 0, by simp [List.getD_eq_getElem?_getD, hi], by simpa using h⟩
theorem results_bool {fn : Func} {p : Tmp} (h : fn.results = #[.cell p 4]) {tmps : Array Value} {w : World} {b T : Nat} {x : Bool} (hb : Blk w b T [.bool x]) (hp : tmps.getD p undef = .pointer (some ⟨b, 0, none⟩)) :
    (results fn tmps).run Tryd.prog w = .ok (.bool x) w := by
  have hp' : tmps[p]?.getD undef = .pointer (some ⟨b, 0, none⟩) := by simpa using hp
  have hc : w.cell? ⟨b, 0, none⟩ = some (.bool x) := hb.cell 0
  simp [results, h, hp', go_sem, hc]
def AnyJ (w : World) (c pb fb : Nat) (_ : Nat) (A : World) : Prop := Frm w.heap.size [] w A ∧ Blk A c 108 [.pointer (some ⟨pb, 0, none⟩)] ∧ Blk A (c + 1) 153 [.func (.func 104) #[] #[.pointer (some ⟨fb, 0, none⟩)]] ∧ Blk A (c + 1 + 1) 4 [.bool false]
def AnyX (w : World) (c : Nat) (_ : Nat) (A : World) : Prop := Frm w.heap.size [] w A ∧ Blk A (c + 1 + 1) 4 [.bool true]
set_option maxRecDepth 100000 in
set_option maxHeartbeats 8000000 in
theorem any_any (pb : Nat) (q : PP) (P : PL) (hok : PLOK P) (s : Nat) (hs : s < 2 ^ P.n) (fb f : Nat) (hf : f < 16) (w : World) (hp : PlAt w pb q P) (hb : Blk w fb 126 [.int .i64 (f : Int)]) (hg : Glob w) :
    Calls Tryd.prog 106 #[.pointer (some ⟨pb, 0, none⟩), .int .u32 (s : Int), .func (.func 104) #[] #[.pointer (some ⟨fb, 0, none⟩)]] w fun e w' => e = .returned (.bool (anyA P f (bitsOf P.n s))) ∧ Frm w.heap.size [] w w' := by
  have hf0 := Tryd.func106
  have e4 : Enters 104 := enters Tryd.func104 (by kernel_rfl) (by kernel_rfl)
  have e3 : Enters 113 := enters Tryd.func113 (by kernel_rfl) (by kernel_rfl)
  have hn12 := hok.n
  refine (callsIn_wide (n := 1)).1 ?_
  refine callsIn_of_wp_marks Tryd.func106 rfl trivial ?_ rfl
  simp only [Tryd.ntmps106, List.size_toArray, List.length_cons, List.length_nil, Nat.reduceAdd, Nat.reduceSub, Array.replicate_succ, Array.replicate_zero, List.push_toArray, List.append_toArray, List.nil_append, List.cons_append]
  refine wpIn_mono (Q := retOnly _) ?_ retOnly_le
  refine wpIn_wide.2 ?_
  have HOK := Lib.hid hok
  have HSS := Lib.hid hs
  have HFF := Lib.hid hf
  have HPL := Lib.hid hp
  have HB := Lib.hid hb
  have HG := Lib.hid hg
  have E4 := Lib.hid e4
  have E3 := Lib.hid e3
  have HN12 := Lib.hid hn12
  clear hn12 e3 e4 hg hb hp hf hs hok
  go_upto_region 1 with fail
  refine namedC ?_; intro W hW
  obtain ⟨c, hc⟩ : ∃ c, c = w.heap.size := ⟨_, rfl⟩
  have k0 : Blk W c 108 [.pointer (some ⟨pb, 0, none⟩)] := by rw [hW, hc]; repeat (first | exact Blk.new w 108 [.pointer (some ⟨pb, 0, none⟩)] | refine Blk.alloc' ?_)
  have k1 : Blk W (c + 1) 153 [.func (.func 104) #[] #[.pointer (some ⟨fb, 0, none⟩)]] := by rw [hW, hc]; repeat (first | exact Blk.new' _ 153 [.func (.func 104) #[] #[.pointer (some ⟨fb, 0, none⟩)]] (by simp) | refine Blk.alloc' ?_)
  have k2 : Blk W (c + 1 + 1) 4 [.bool false] := by rw [hW, hc]; repeat (first | exact Blk.new' _ 4 [.bool false] (by simp) | refine Blk.alloc' ?_)
  have hfw : Frm w.heap.size [] w W := by rw [hW]; repeat (first | with_reducible exact Frm.refl _ _ _ | with_reducible refine Frm.drewN ?_ | with_reducible refine Frm.drew ?_ | ((with_reducible refine Frm.setCell' ?_ ?_); · first | (left; simp; done) | (right; simp; done) | (right; simp; omega)) | ((with_reducible refine Frm.alloc' ?_ ?_); · first | exact Nat.le_refl _ | (simp; done) | (simp; omega)))
  clear hW hf0
  rw [← hc]
  have K0 := Lib.hid k0
  have K1 := Lib.hid k1
  have K2 := Lib.hid k2
  have HF := Lib.hid hfw
  have HC := Lib.hid hc
  clear hc hfw k2 k1 k0
  go_wp2_with fail
  refine (allS_any s W).mono ?_; rintro e w1 ⟨rfl, hsb, hf1⟩
  have hcW : c + 1 + 1 < W.heap.size := K2.out.lt
  have k0 := hf1.blk K0.out K0.out.lt (by simp)
  have k1 := hf1.blk K1.out K1.out.lt (by simp)
  have k2 := hf1.blk K2.out K2.out.lt (by simp)
  have hfw := HF.out.call hf1 HF.out.size (by simp)
  obtain ⟨sb, hsbn⟩ : ∃ k, k = W.heap.size := ⟨_, rfl⟩
  rw [← hsbn] at hsb hcW ⊢
  have hcs : w.heap.size ≤ sb := by rw [hsbn]; exact HF.out.size
  have hsl := hsb.lt
  clear hf1 K0 K1 K2 HF hsbn
  have K0 := Lib.hid k0
  have K1 := Lib.hid k1
  have K2 := Lib.hid k2
  have HF := Lib.hid hfw
  have HSB := Lib.hid hsb
  have HCW := Lib.hid hcW
  have HCS := Lib.hid hcs
  have HSL := Lib.hid hsl
  clear hsl hcs hcW hsb hfw k2 k1 k0
  go_wp2_with fail
  obtain ⟨N, hN⟩ : ∃ N, N = w1.heap.size := ⟨_, rfl⟩
  have hsN : sb < N := by rw [hN]; exact HSL.out
  have hcN : c + 1 + 1 < sb := HCW.out
  have hwN : w.heap.size ≤ N := by rw [hN]; exact HF.out.size
  have HNE := Lib.hid hN
  clear hN
  obtain ⟨A, hA⟩ : ∃ A, A = bitsOf P.n s := ⟨_, rfl⟩
  have hAl : ∀ i, i < A.length → A.getD i 0 < P.n := fun i hi => by
    have h1 : A.getD i 0 ∈ A := by simp [List.getD_eq_getElem?_getD, hi]
    rw [hA] at h1
    exact (bitsOf_mem.1 (by rw [← hA] at h1 ⊢; exact h1)).1
  have HAA := Lib.hid hA
  have HAL := Lib.hid hAl
  clear hAl hA
  refine (wpIn_wide (n := 1)).1 ?_
  refine wp_rangeFunc_ret (m := 0) (gf := 113) (lb := #[.pointer (some ⟨sb, 0, none⟩)]) rfl E3.out.out
    (fun i => #[.int .i64 ((A.getD i 0 : Nat) : Int)]) (fun i => rfl) A.length (contA P f A) [sb] [c + 1 + 1] (AnyJ w c pb fb) (AnyX w c)
    (fun o _ => match o with
      | none => ∀ i, i < A.length → contA P f A i = true
      | some i => i < A.length ∧ contA P f A i = false)
    ?hS0 ?hST ?hJ ?hJx ?hR ?hiter ?h0 ?hround ?hdone ?hstop
  case hS0 => intro x hx; rw [← HNE.out]; have hcw := HC.out; simp at hx; omega
  case hST => intro x hx; rw [← HNE.out]; simp at hx; omega
  case hJ =>
    rintro i A1 B hA1 ⟨j0, j1, j2, j3⟩ hf
    rw [← HNE.out] at hA1 hf
    have hcw := HC.out
    exact ⟨j0.call hf j0.size (fun x hx hm => by simp at hm; omega), hf.blk j1 j1.lt (by simp; omega), hf.blk j2 j2.lt (by simp; omega), hf.blk j3 j3.lt (by simp; omega)⟩
  case hJx =>
    rintro i A1 o hA1 ⟨j0, j3⟩
    rw [← HNE.out]
    have hcw := HC.out
    exact ⟨j0.putObj (.inr (by omega)) o, (World.putObj_heap_other (by omega)).trans j3⟩
  case hR => intro o A1 ob hR; exact hR
  case hiter =>
    intro J' Jx' W2 hfW2 hN2 hJ' hY' h0'
    rw [← HNE.out] at hfW2 hN2 hJ' hY'
    rw [← HNE.out]
    have hcw := HC.out
    have hw2 : Frm w.heap.size [] w W2 := HF.out.call hfW2 hwN (by simp)
    refine callsIn_wide.2 ((iterS_any sb s P.n N 0 (N + 1) [c + 1 + 1] w W2 HG.out hw2 (hfW2.blk HSB.out hsN (by simp)) HCS.out (by omega) hsN (by simp; omega) (fun x hx => by simp at hx; omega) (by have := HN12.out; omega) HSS.out (contA P f A)
      (fun i A1 => J' i A1 ∧ N + 2 ≤ A1.heap.size) Jx' ?_ ?_ ⟨h0', hN2⟩).mono ?_)
    · rintro i A1 B _ ⟨hj, hz⟩ hf
      exact ⟨hJ' i A1 B hz hj hf, Nat.le_trans hz hf.size⟩
    · rintro i A0 A1 hi _ ⟨hj, hz⟩ hf
      rw [← HAA.out] at hi ⊢
      refine (hY' i A0 A1 hi hz hj hf).mono ?_
      rintro e A' ⟨hk, (⟨h1, h2, h3⟩ | h)⟩
      · exact ⟨hk, .inl ⟨h1, h2, h3, Nat.le_trans (Nat.le_trans hz hf.size) hk.frm.size⟩⟩
      · exact ⟨hk, .inr h⟩
    · rintro e W3 ⟨hv, hf3, (⟨h1, h2⟩ | ⟨i, h1, h2, h3, h4⟩)⟩
      · rw [← HAA.out] at h1 h2
        exact ⟨hv, .inl ⟨h2, h1.1⟩⟩
      · rw [← HAA.out] at h1
        exact ⟨hv, .inr ⟨i, ⟨h1, h3⟩, h4⟩⟩
  case h0 =>
    intro W2 hf2 hz
    rw [← HNE.out] at hf2
    exact ⟨HF.out.call hf2 hwN (by simp), hf2.blk K0.out (by omega) (by simp), hf2.blk K1.out (by omega) (by simp), hf2.blk K2.out (by omega) (by simp)⟩
  case hround =>
    rintro i A0 W2 hi hz0 _ hf0 ⟨j0, j1, j2, j3⟩
    rw [← HNE.out] at hz0
    rw [← HNE.out]
    have hjn := HAL.out i hi
    obtain ⟨j, hj⟩ : ∃ j, j = A.getD i 0 := ⟨_, rfl⟩
    rw [← hj] at hjn
    dsimp only
    simp only [← hj]
    have hcw := HC.out
    have hcw' : w.heap.size ≤ c := by omega
    clear hcw
    have HJJ := Lib.hid hj
    have HII := Lib.hid hi
    clear hi hj
    refine regionIn_of (noOut noOutF) rfl ?_
    go_wp2_with fail
    refine ⟨⟨Frm.refl _ _ _, fun k _ _ => rfl⟩, ?_⟩
    intro o
    have hz2 : N + 2 ≤ W2.heap.size := Nat.le_trans hz0 hf0.size
    obtain ⟨W4, hW4⟩ : ∃ W4, W4 = W2.putObj (N + 1) o := ⟨_, rfl⟩
    have hz4 : N + 2 ≤ W4.heap.size := by rw [hW4]; simpa using hz2
    have e0 : Frm w.heap.size [] w W4 := by rw [hW4]; exact j0.putObj (.inr (by omega)) o
    have e1 : Blk W4 c 108 [.pointer (some ⟨pb, 0, none⟩)] := by rw [hW4]; exact (World.putObj_heap_other (by omega)).trans j1
    have e2 : Blk W4 (c + 1) 153 [.func (.func 104) #[] #[.pointer (some ⟨fb, 0, none⟩)]] := by rw [hW4]; exact (World.putObj_heap_other (by omega)).trans j2
    have e3 : Blk W4 (c + 1 + 1) 4 [.bool false] := by rw [hW4]; exact (World.putObj_heap_other (by omega)).trans j3
    rw [← hW4]
    have hz0A : A0.heap.size ≤ W4.heap.size := by rw [hW4]; simpa using hf0.size
    clear hW4 j0 j1 j2 j3 hf0
    have hpl := HPL.out.frm e0 (Nat.le_refl _)
    obtain ⟨n, hnn⟩ : ∃ n, n = P.n := ⟨_, rfl⟩
    have had := hpl.acts.ad (by omega)
    have hjn' : (j : Int) < (n : Int) := by omega
    have hfx : ∀ V, Frm W4.heap.size [] W4 V → V.cell? ⟨c, 0, none⟩ = some (.pointer (some ⟨pb, 0, none⟩)) ∧ V.cell? ⟨c + 1, 0, none⟩ = some (.func (.func 104) #[] #[.pointer (some ⟨fb, 0, none⟩)]) ∧ V.cell? ⟨pb, 1, none⟩ = some (.slice (some ⟨q.b1, q.o1, none⟩) n q.c1) := fun V hV => by
      have h3 : V.cell? ⟨pb, 1, none⟩ = some (.slice q.a1 P.n q.c1) := (hV.blk hpl.box hpl.box.lt (by simp)).cell 1
      rw [had, ← hnn] at h3
      exact ⟨(hV.blk e1 e1.lt (by simp)).cell 0, (hV.blk e2 e2.lt (by simp)).cell 0, h3⟩
    have hlo : ∀ V, Frm W4.heap.size [] W4 V → (loadVar 118 ⟨q.b1, q.o1 + j * 3, none⟩).run Tryd.prog V = .ok (.agg (P.act j).toArray) V := fun V hV => (hpl.acts.frm hV (Nat.le_refl _)).load (P := Tryd.prog) Tryd.underlying118 rfl hjn info118
    have hfbV : ∀ V, Frm W4.heap.size [] W4 V → Blk V fb 126 [.int .i64 (f : Int)] := fun V hV => (e0.call hV e0.size (by simp)).blk HB.out HB.out.lt (by simp)
    clear hpl had
    have E0 := Lib.hid e0
    have E1 := Lib.hid e1
    have E2 := Lib.hid e2
    have EE3 := Lib.hid e3
    have HFX := Lib.hid hfx
    have HLO := Lib.hid hlo
    have HFB := Lib.hid hfbV
    have HJN := Lib.hid hjn
    have HNN := Lib.hid hnn
    have HZA := Lib.hid hz0A
    have HZ4 := Lib.hid hz4
    clear hz4 hz0A hnn hjn hfbV hlo hfx e3 e2 e1 e0
    refine wpIn_block ?_
    refine wpIn_seq ?_
    refine regionIn_leftL (noOut (noOutB noOutR)) (by kernel_rfl) (fun V => Frm W4.heap.size [] W4 V) 1000 (by kernel_rfl) ?_
    have hS : Frm W4.heap.size [] W4 W4.drew := (Frm.refl _ _ W4).drew
    have h104 := E4.out.out
    have HS := Lib.hid hS
    clear hS
    first | ((first | refine LeftL.tkF (v := ?_) 0 rfl HS.out ?_ ?_ | refine LeftL.tkG (v := ?_) 0 rfl HS.out ?_ ?_); rotate_left; (· intro V hV; obtain ⟨q0, q1, q2⟩ := HFX.out V hV; clear hV; go_simp; rfl)) | refine LeftL.tkN 0 rfl HS.out ?_
    (intro K' hK'; go_simp; refine hK' _ ?_; clear hK' K')
    first | ((first | refine LeftL.tkF (v := ?_) 1 rfl HS.out ?_ ?_ | refine LeftL.tkG (v := ?_) 1 rfl HS.out ?_ ?_); rotate_left; (· intro V hV; obtain ⟨q0, q1, q2⟩ := HFX.out V hV; clear hV; go_simp; rfl)) | refine LeftL.tkN 1 rfl HS.out ?_
    (intro K' hK'; go_simp; refine hK' _ ?_; clear hK' K')
    first | ((first | refine LeftL.tkF (v := ?_) 2 rfl HS.out ?_ ?_ | refine LeftL.tkG (v := ?_) 2 rfl HS.out ?_ ?_); rotate_left; (· intro V hV; obtain ⟨q0, q1, q2⟩ := HFX.out V hV; clear hV; go_simp; rfl)) | refine LeftL.tkN 2 rfl HS.out ?_
    (intro K' hK'; go_simp; refine hK' _ ?_; clear hK' K')
    first | ((first | refine LeftL.tkF (v := ?_) 3 rfl HS.out ?_ ?_ | refine LeftL.tkG (v := ?_) 3 rfl HS.out ?_ ?_); rotate_left; (· intro V hV; obtain ⟨q0, q1, q2⟩ := HFX.out V hV; clear hV; go_simp; rfl)) | refine LeftL.tkN 3 rfl HS.out ?_
    (intro K' hK'; go_simp; refine hK' _ ?_; clear hK' K')
    first | ((first | refine LeftL.tkF (v := ?_) 4 rfl HS.out ?_ ?_ | refine LeftL.tkG (v := ?_) 4 rfl HS.out ?_ ?_); rotate_left; (· intro V hV; obtain ⟨q0, q1, q2⟩ := HFX.out V hV; clear hV; go_simp; rfl)) | refine LeftL.tkN 4 rfl HS.out ?_
    (intro K' hK'; go_simp; refine hK' _ ?_; clear hK' K')
    first | ((first | refine LeftL.tkF (v := ?_) 5 rfl HS.out ?_ ?_ | refine LeftL.tkG (v := ?_) 5 rfl HS.out ?_ ?_); rotate_left; (· intro V hV; obtain ⟨q0, q1, q2⟩ := HFX.out V hV; clear hV; go_simp; rfl)) | refine LeftL.tkN 5 rfl HS.out ?_
    (intro K' hK'; go_simp; refine hK' _ ?_; clear hK' K')
    first | ((first | refine LeftL.tkF (v := ?_) 6 rfl HS.out ?_ ?_ | refine LeftL.tkG (v := ?_) 6 rfl HS.out ?_ ?_); rotate_left; (· intro V hV; obtain ⟨q0, q1, q2⟩ := HFX.out V hV; clear hV; go_simp; rfl)) | refine LeftL.tkN 6 rfl HS.out ?_
    (intro K' hK'; go_simp; refine hK' _ ?_; clear hK' K')
    refine LeftL.take 7 rfl (by kernel_rfl) (fun _ _ d _ _ h => by cases d <;> exact h) (yields_loadE (ty := 118) rfl rfl rfl (HLO.out)) HS.out ?_; (intro K' hK'; go_simp; refine hK' _ ?_; clear hK' K')
    refine LeftL.one 8 rfl (by kernel_rfl) ?_
    go_wp2_with fail
    refine (adds_any fb f P j (HOK.out.add j HJN.out) HFF.out _ (HFB.out _ HS.out)).mono ?_; rintro e w5 ⟨rfl, hf1⟩
    have hS1 := HS.out.call hf1 HS.out.size (by simp)
    have hct : contA P f A i = !((P.add j).testBit f) := by unfold contA; rw [HJJ.out]
    clear hf1 HS
    have HS := Lib.hid hS1
    have HCT := Lib.hid hct
    clear hct hS1
    go_wp2_with fail
    first | refine ⟨fun _ => HS.out, ?_⟩ | refine ⟨HS.out, ?_⟩
    refine LeftL.done (by kernel_rfl) ?_
    have g0 := E0.out.call HS.out E0.out.size (by simp)
    have g1 := HS.out.blk E1.out E1.out.lt (by simp)
    have g2 := HS.out.blk E2.out E2.out.lt (by simp)
    have g3 := HS.out.blk EE3.out EE3.out.lt (by simp)
    have hct := HCT.out
    have hkp : KeepY (N + 2) [c + 1 + 1] A0.heap.size W4 w5 := keepY_of HS.out HZ4.out (fun x hx _ => by cases hx) (fun x hx => by cases hx)
    have hlt5 : W4.heap.size ≤ w5.heap.size := HS.out.size
    dsimp only [Exit.then]
    cases ht : (P.add j).testBit f
    · rw [ht] at hct
      refine wpIn_cond_false rfl ?_
      refine wpIn_skip ?_
      show KeepY (w1.heap.size + 2) _ _ _ _ ∧ _ ∧ AnyJ w c pb fb (i + 1) _
      rw [← HNE.out]
      exact ⟨hkp, by rw [hct]; rfl, g0, g1, g2, g3⟩
    · rw [ht] at hct
      refine wpIn_cond_true rfl ?_
      refine wpIn_seq ?_
      have c3 := g3.cell 0
      have f3 := g3.free 0
      clear HS E0 E1 E2 EE3 HFX HLO HFB
      have HKP := Lib.hid hkp
      have HCTT := Lib.hid hct
      have G0 := Lib.hid g0
      have G1 := Lib.hid g1
      have G2 := Lib.hid g2
      have G3 := Lib.hid g3
      have HLT5 := Lib.hid hlt5
      clear hlt5 g3 g2 g1 g0 hct hkp
      refine regionIn_of (noOut (noOutB noOutR)) rfl ?_
      go_wp2_with fail
      refine wpIn_ret ?_
      show KeepY (w1.heap.size + 2) _ _ _ _ ∧ _ ∧ AnyX w c i _
      rw [← HNE.out]
      have hF6 : Frm w5.heap.size [c + 1 + 1] w5 (w5.setCell ⟨c + 1 + 1, 0, none⟩ (.bool true)) := (Frm.refl _ _ w5).setCell (p := ⟨c + 1 + 1, 0, none⟩) (.inl (by simp)) _
      have hcz := HCW.out
      have hcs := HZA.out
      have hz4 := HZ4.out
      have hl5 := HLT5.out
      refine ⟨HKP.out.trans (keepY_of hF6 (by omega) (fun x hx _ => hx) (fun x hx => by simp at hx; omega)), by rw [HCTT.out]; rfl, ?_, G3.out.set 0 (.bool true)⟩
      exact G0.out.setCell (p := ⟨c + 1 + 1, 0, none⟩) (.inr (by dsimp only; have := HC.out; omega)) _
  case hdone =>
    rintro W2 hall ⟨j0, j1, j2, j3⟩ hD
    rw [← HNE.out] at hD ⊢
    have c3 := j3.cell 0
    have f3 := j3.free 0
    have hno := anyA_no hall
    have HD := Lib.hid hD
    have J0 := Lib.hid j0
    have J3 := Lib.hid j3
    have HNO := Lib.hid hno
    clear hno j3 j0 hD
    dsimp only [Exit.inBlock, Exit.then]
    go_wp2_with fail
    have hF6 : Frm W2.heap.size [c + 1 + 1] W2 (W2.setCell ⟨c + 1 + 1, 0, none⟩ (.bool false)) := (Frm.refl _ _ W2).setCell (p := ⟨c + 1 + 1, 0, none⟩) (.inl (by simp)) _
    have hND : N < W2.heap.size := (Array.getElem?_eq_some_iff.1 HD.out).1
    have hD6 := (hF6.block N hND (by simp; omega)).trans HD.out
    have b6 := J3.out.set 0 (.bool false)
    have f6 : Frm w.heap.size [] w (W2.setCell ⟨c + 1 + 1, 0, none⟩ (.bool false)) := J0.out.setCell (p := ⟨c + 1 + 1, 0, none⟩) (.inr (by dsimp only; have := HC.out; omega)) _
    generalize W2.setCell ⟨c + 1 + 1, 0, none⟩ (.bool false) = W3 at hD6 b6 f6 ⊢
    refine ⟨by simp, .inl ⟨_, _, rfl, run_takeDeferred hD6, ?_⟩⟩
    refine ⟨_, results_bool Tryd.results106 (b := c + 1 + 1) (T := 4) (x := false) ((World.putObj_heap_other (by omega)).trans b6) rfl, ?_⟩
    exact ⟨by rw [← HAA.out, HNO.out], f6.putObj (.inr hwN) _⟩
  case hstop =>
    rintro i W2 ⟨hi, hct⟩ ⟨j0, j3⟩ hD
    rw [← HNE.out] at hD ⊢
    have hyes := anyA_yes hi hct
    dsimp only [Exit.inBlock, Exit.then]
    refine ⟨by simp, .inl ⟨_, _, rfl, run_takeDeferred hD, ?_⟩⟩
    refine ⟨_, results_bool Tryd.results106 (b := c + 1 + 1) (T := 4) (x := true) ((World.putObj_heap_other (by omega)).trans j3) rfl, ?_⟩
    exact ⟨by rw [← HAA.out, hyes], j0.putObj (.inr hwN) _⟩
end Go.Proofs.YtfmigicmfolbjaaDoor
