/-
  All rows of a plan: the walk.
-/
import Derived.Test.YtfmigicmfolbjaaDoorX1
import Derived.Test.YtfmigicmfolbjaaDoorM2
namespace Go.Proofs.YtfmigicmfolbjaaDoor
set_option linter.all false
set_option linter.unusedSimpArgs false
set_option linter.unusedVariables false
open Go.RowKit Go.Shelf

theorem MatAt.frmS {w w' : World} {n B : Nat} {f : Nat → Nat} {S : List Nat} (h : MatAt w n B f) (hf : Frm w.heap.size S w w') (h1 : B ∉ S) (h2 : ∀ i, i < n → B + 1 + i ∉ S) : MatAt w' n B f :=
  ⟨hf.blk h.rows h.rows.lt h1, fun i hi => hf.blk (h.each i hi) (h.each i hi).lt (h2 i hi)⟩
/-- An outer list is apart from the orders. -/
def ApartM (n B : Nat) (own : Option Nat) : Prop := ∀ x, own = some x → x ≠ B ∧ ∀ i, i < n → x ≠ B + 1 + i
theorem MatAt.frmO {w w' : World} {n B : Nat} {f : Nat → Nat} {own : Option Nat} (h : MatAt w n B f) (hf : Frm w.heap.size own.toList w w') (ha : ApartM n B own) : MatAt w' n B f :=
  h.frmS hf (fun hm => (ha B (by simpa using hm)).1 rfl) (fun i hi hm => (ha (B + 1 + i) (by simpa using hm)).2 i hi rfl)
theorem MatAt.apart {w : World} {n B : Nat} {f : Nat → Nat} {own own' : Option Nat} (h : MatAt w n B f) (ha : ApartM n B own) (ho : own' = own ∨ ∃ g, own' = some g ∧ w.heap.size ≤ g) : ApartM n B own' := by
  rcases ho with e | ⟨g, e, hg⟩
  · rw [e]; exact ha
  · intro x hx
    rw [e] at hx
    cases hx
    have h1 := h.rows.lt
    refine ⟨by omega, fun i hi => ?_⟩
    have h2 := (h.each i hi).lt
    omega
theorem rwI_frmO {w w' : World} {ad : Option Addr} {b off n : Nat} {F : Nat → Int} {own : Option Nat} (h : RwI w ad b off n F) (hf : Frm w.heap.size own.toList w w') (hb : 0 < n → own ≠ some b) : RwI w' ad b off n F := by
  rcases Nat.eq_zero_or_pos n with e | e
  · subst e; exact rwI_nil _ _ _ _ _
  · exact Rw.frmS h hf (fun hm => hb e (by simpa using hm))
theorem rwI_apart {w : World} {ad : Option Addr} {b off n : Nat} {F : Nat → Int} {own own' : Option Nat} (h : RwI w ad b off n F) (hb : 0 < n → own ≠ some b) (ho : own' = own ∨ ∃ g, own' = some g ∧ w.heap.size ≤ g) : 0 < n → own' ≠ some b := fun hn => by
  rcases ho with e | ⟨g, e, hg⟩
  · rw [e]; exact hb hn
  · rw [e]
    intro e2
    cases e2
    have := h.block hn
    omega
def RowsC (n B : Nat) (f : Nat → Nat) (A : Nat → Nat → Bool) (d : Nat) : Prop := ∀ (row : List Nat), row.length + d = n → ∀ (ad : Option Addr) (b off L cap : Nat) (v : Value) (rs : List (List Nat)) (own : Option Nat) (w : World), L = row.length → MatAt w n B f → RwI w ad b off L (at0 row) → RowsAt w v rs own → (0 < L → own ≠ some b) → ApartM n B own → rs.length + n ^ d ≤ 50000 →
    Calls Tryd.prog 107 #[.int .i64 (n : Int), .slice (some ⟨B, 0, none⟩) n n, .slice ad L cap, v] w fun e w' => RowsIs (rs ++ rowsR n A d row) own w w' e
set_option maxRecDepth 100000 in
set_option maxHeartbeats 16000000 in
theorem rows_leaf (n B : Nat) (f : Nat → Nat) (A : Nat → Nat → Bool) (hn : n ≤ 6) : RowsC n B f A 0 := by
  intro row hrow ad b off L cap v rs own w hL hm hr hrs hb ha hbd
  have hf0 := Tryd.func107
  obtain ⟨i0, hi0, hz0, hz1, hz2⟩ := info_parts3 info26
  obtain ⟨cs, hsl, hel⟩ := hrs
  obtain ⟨ado, capo, rfl⟩ := hsl.form
  obtain ⟨N, hN⟩ : ∃ N, N = rs.length := ⟨_, rfl⟩
  obtain rfl : L = n := by omega
  have hcl : cs.length = rs.length := by have := hsl.1; omega
  rw [← hN] at hsl hbd ⊢
  clear ha hm
  have HR := Lib.hid hr
  have HEL := Lib.hid hel
  have HSL := Lib.hid hsl
  have HB := Lib.hid hb
  have HBD := Lib.hid hbd
  have HI0 := Lib.hid hi0
  have HZ0 := Lib.hid hz0
  have HZ1 := Lib.hid hz1
  have HZ2 := Lib.hid hz2
  have HN := Lib.hid hN
  have HL := Lib.hid hL
  have HROW := Lib.hid hrow
  have HNN := Lib.hid hn
  have HCL := Lib.hid hcl
  clear hcl hn hrow hL hN hz2 hz1 hz0 hi0 hbd hb hsl hel hr
  go_enter Tryd.func107, Tryd.ntmps107
  go_wp2_with (at_builtin; refine hold ?_; intro qG hG)
  refine hG.1 ?_; clear hG qG
  refine wpList_append_sl _ rfl (.tmp 16) (.tmp 18) 130 rfl 26 i0 _ 1 24 Tryd.underlying130 HI0.out HZ0.out HZ1.out HZ2.out rfl _ N cs own rfl (HSL.out.alloc _) ⟨w.heap.size, 0, none⟩ 1 1 [.slice ad L cap] rfl rfl (news_alloc _ [.slice ad L cap] _) (by simp [Value.oneCell']) (by have := HBD.out; unfold maxLen; omega) (by have := HBD.out; omega) ?_
  intro v8 w8 own8 hs8 hf8 ho8
  have hf9 : Frm w.heap.size own.toList w w8 := ((Frm.refl w.heap.size own.toList w).alloc (Nat.le_refl _) _).call hf8 (by simp) (fun x hx hm => hm)
  have ho9 : own8 = own ∨ ∃ g, own8 = some g ∧ w.heap.size ≤ g := by
    rcases ho8 with h | ⟨g, h, hg⟩
    · exact .inl h
    · exact .inr ⟨g, h, by simp at hg; omega⟩
  have hres := rowsIs own8 (RowsAt.snoc (row := row) (ad := ad) (b := b) (off := off) (cap := cap) HEL.out HCL.out (by rw [← HL.out]; exact HR.out) (by rw [← HL.out]; exact HB.out) hf9 ho9 (by rw [← HL.out, ← HN.out]; exact hs8)) hf9 ho9
  clear hs8 hf8 ho8 hf9 ho9
  have HRES := Lib.hid hres
  clear hres
  go_wp2_with fail
  go_ret
  exact HRES.out
set_option maxRecDepth 100000 in
set_option maxHeartbeats 16000000 in
theorem rows_step (n B : Nat) (f : Nat → Nat) (A : Nat → Nat → Bool) (hA : ∀ i j, i < n → A i j = (f i).testBit j) (hn : n ≤ 6) (d : Nat) (ih : RowsC n B f A d) : RowsC n B f A (d + 1) := by
  intro row hrow ad b off L cap v rs own w hL hm hr hrs hb ha hbd
  have hf0 := Tryd.func107
  obtain ⟨i0, hi0, hz0, hz1, hz2⟩ := info_parts3 info3x
  have hlen : n ≤ maxLen := by unfold maxLen; omega
  have hLn : ¬ (L : Int) = (n : Int) := by omega
  have hLb : ((L : Int) == (n : Int)) = false := by simp; omega
  have hLc : (L == n) = false := by simp; omega
  have hpw : n ^ (d + 1) = n * n ^ d := by rw [Nat.pow_succ, Nat.mul_comm]
  have HR := Lib.hid hr
  have HM := Lib.hid hm
  have HRS := Lib.hid hrs
  have HB := Lib.hid hb
  have HA := Lib.hid ha
  have HBD := Lib.hid hbd
  have HI0 := Lib.hid hi0
  have HZ0 := Lib.hid hz0
  have HZ1 := Lib.hid hz1
  have HZ2 := Lib.hid hz2
  have HL := Lib.hid hL
  have HROW := Lib.hid hrow
  have HNN := Lib.hid hn
  have HAA := Lib.hid hA
  have IH := Lib.hid ih
  have HPW := Lib.hid hpw
  clear hpw ih hA hn hrow hL hz2 hz1 hz0 hi0 hbd ha hb hrs hm hr
  go_enter Tryd.func107, Tryd.ntmps107
  go_wp2_with fail
  go_loopw [3, 9] (fun s3 s9 wr => ∃ (i : Nat) (owni : Option Nat), s9 = .int .i64 i ∧ i ≤ n ∧ RowsAt wr s3 (rs ++ rowsP n A d row i) owni ∧ (owni = own ∨ ∃ g, owni = some g ∧ w.heap.size ≤ g) ∧ Frm w.heap.size own.toList w wr) (fun _ s9 _ => n - (intOf s9).toNat)
  case atStart => exact ⟨0, own, rfl, Nat.zero_le _, by rw [rowsP_zero, List.append_nil]; exact HRS.out, .inl rfl, Frm.refl _ _ _⟩
  case round =>
    clear HRS
    obtain ⟨i, owni, rfl, hi, hrs, hoi, hfr⟩ := hrel
    by_cases hin : i < n
    rotate_left
    · have hin' : ¬ (i : Int) < (n : Int) := by omega
      obtain rfl : i = n := by omega
      have hres := rowsIs owni hrs hfr hoi
      rw [rowsP_all] at hres
      clear hrs hfr hoi
      have HRES := Lib.hid hres
      clear hres
      go_wp2_with fail
      go_ret
      exact HRES.out
    have hin' : (i : Int) < (n : Int) := by omega
    obtain ⟨y4, y5⟩ := wrapUp hin hlen
    have hms := meas_up hin
    have hrw := rwI_frmO HR.out hfr HB.out
    have hmw := HM.out.frmO hfr HA.out
    have hia := has_any ad b off L cap (at0 row) (i : Int) wr hrw
    have hih : inF (at0 row) L (i : Int) = row.contains i := by rw [HL.out]; exact inF_has row i
    rw [hih] at hia
    obtain ⟨c0, hc0⟩ : ∃ x, x = row.contains i := ⟨_, rfl⟩
    rw [← hc0] at hia
    obtain ⟨ado, capo, rfl⟩ := hrs.form
    obtain ⟨N, hN⟩ : ∃ N, N = (rs ++ rowsP n A d row i).length := ⟨_, rfl⟩
    rw [← hN] at hrs ⊢
    obtain ⟨W1, hW1⟩ : ∃ V, V = wr := ⟨_, rfl⟩
    rw [← hW1] at hia hrs hfr hrw hmw ⊢
    have hfw : Frm W1.heap.size [] W1 W1 := Frm.refl _ _ _
    clear hih hW1
    have HIA := Lib.hid hia
    have HFR := Lib.hid hfr
    have HC0 := Lib.hid hc0
    have HIN := Lib.hid hin
    have HMS := Lib.hid hms
    have HRS := Lib.hid hrs
    have HOI := Lib.hid hoi
    have HRW := Lib.hid hrw
    have HMW := Lib.hid hmw
    have HN := Lib.hid hN
    have HFW := Lib.hid hfw
    clear hfw hN hmw hrw hoi hrs hms hin hc0 hfr hia
    have hin := HIN.out
    go_wp2_with (go_at_call 66; refine HIA.out.mono ?_; rintro e9 w9 ⟨rfl, hf9⟩; have hf2 := HFW.out.call hf9 HFW.out.size (by simp); clear hf9)
    have hf2' := hf2
    clear hf2 HFW HIA
    have HFW := Lib.hid hf2'
    clear hf2'
    go_loopw [10, 11] (fun s10 s11 wr => ∃ k : Nat, s11 = .int .i64 k ∧ k ≤ n ∧ s10 = .bool (okA A row i (!c0) k) ∧ Frm W1.heap.size [] W1 wr) (fun _ s11 _ => n - (intOf s11).toNat)
    case atStart => exact ⟨0, rfl, Nat.zero_le _, by rw [okA_zero], HFW.out⟩
    case round =>
      clear HFW
      obtain ⟨k, rfl, hk, rfl, hfw⟩ := hrel
      by_cases hkn : k < n
      · have hkn' : (k : Int) < (n : Int) := by omega
        obtain ⟨x4, x5⟩ := wrapUp hkn hlen
        have hms2 := meas_up hkn
        have hm3 := HMW.out.frm hfw (Nat.le_refl _)
        obtain ⟨rk, hrk⟩ : ∃ r, r = B + 1 + k := ⟨_, rfl⟩
        obtain ⟨bt, hbt⟩ : ∃ b, b = (f k).testBit i := ⟨_, rfl⟩
        have m1 : wr.cell? ⟨B, k, none⟩ = some (.slice (some ⟨rk, 0, none⟩) n n) := by rw [hrk]; exact hm3.row hkn
        have m2 : wr.cell? ⟨rk, i, none⟩ = some (.bool bt) := by rw [hrk, hbt]; exact hm3.bit hkn hin
        have hnx := okA_succ A row i (!c0) k
        rw [HAA.out k i hkn, ← hbt] at hnx
        have hia := has_any ad b off L cap (at0 row) (k : Int) wr (HRW.out.frm hfw (Nat.le_refl _))
        have hih : inF (at0 row) L (k : Int) = row.contains k := by rw [HL.out]; exact inF_has row k
        rw [hih] at hia
        obtain ⟨hs, hhs⟩ : ∃ x, x = row.contains k := ⟨_, rfl⟩
        rw [← hhs] at hia hnx
        clear hm3 hrk hbt hih hhs
        obtain ⟨v, hv⟩ : ∃ v, v = okA A row i (!c0) k := ⟨_, rfl⟩
        rw [← hv] at hnx ⊢
        cases bt
        · rw [Bool.not_false, Bool.true_or, Bool.and_true] at hnx
          have HKN := Lib.hid hkn
          have HMS2 := Lib.hid hms2
          have HNX := Lib.hid hnx
          have HV := Lib.hid hv
          have HFK := Lib.hid hfw
          have HIA := Lib.hid hia
          clear hia hfw hv hnx hms2 hkn
          go_wp2_with fail
          (try simp only [x4, x5])
          exact ⟨⟨k + 1, by simp, HKN.out, by rw [HNX.out], HFK.out⟩, HMS2.out⟩
        · cases hs
          · rw [Bool.not_true, Bool.false_or, Bool.and_false] at hnx
            have HKN := Lib.hid hkn
            have HMS2 := Lib.hid hms2
            have HNX := Lib.hid hnx
            have HV := Lib.hid hv
            have HFK := Lib.hid hfw
            have HIA := Lib.hid hia
            clear hia hfw hv hnx hms2 hkn
            go_wp2_with (go_at_call 66; refine HIA.out.mono ?_; rintro e9 w9 ⟨rfl, hf9⟩; replace HFK := Lib.hid (HFK.out.call hf9 HFK.out.size (by simp)); clear hf9)
            (try simp only [x4, x5])
            exact ⟨⟨k + 1, by simp, HKN.out, by rw [HNX.out], HFK.out⟩, HMS2.out⟩
          · rw [Bool.not_true, Bool.false_or, Bool.and_true] at hnx
            have HKN := Lib.hid hkn
            have HMS2 := Lib.hid hms2
            have HNX := Lib.hid hnx
            have HV := Lib.hid hv
            have HFK := Lib.hid hfw
            have HIA := Lib.hid hia
            clear hia hfw hv hnx hms2 hkn
            go_wp2_with (go_at_call 66; refine HIA.out.mono ?_; rintro e9 w9 ⟨rfl, hf9⟩; replace HFK := Lib.hid (HFK.out.call hf9 HFK.out.size (by simp)); clear hf9)
            (try simp only [x4, x5])
            exact ⟨⟨k + 1, by simp, HKN.out, by rw [HNX.out], HFK.out⟩, HMS2.out⟩
      · have hkn' : ¬ (k : Int) < (n : Int) := by omega
        obtain rfl : n = k := by omega
        have hrd : okA A row i (!c0) n = readyB n A row i := by rw [HC0.out]; exact readyB_okA n A row i
        rw [hrd]
        have hsc := rowsP_succ n A d row i
        have hrs := HRS.out.frm hfw (Nat.le_refl _)
        have hfr := HFR.out.call hfw HFR.out.size (by simp)
        cases hb : readyB n A row i
        · rw [hb, if_neg (by simp), List.append_nil] at hsc
          rw [← hsc] at hrs
          clear hrd hb hfw HRS HFR hkn'
          have HFR := Lib.hid hfr
          have HRS := Lib.hid hrs
          have HSC := Lib.hid hsc
          clear hsc hrs hfr
          go_wp2_with fail
          (try simp only [y4, y5])
          exact ⟨⟨i + 1, owni, by simp, HIN.out, HRS.out, HOI.out, HFR.out⟩, HMS.out⟩
        · rw [hb, if_pos rfl] at hsc
          obtain ⟨W2, hW2⟩ : ∃ V, V = wr := ⟨_, rfl⟩
          rw [← hW2] at hrs hfr hfw ⊢
          have hrw := HRW.out.frm hfw (Nat.le_refl _)
          have hmw := HMW.out.frm hfw (Nat.le_refl _)
          clear hrd hb hfw HRS HFR hW2 HRW HMW hkn'
          have HFR := Lib.hid hfr
          have HRS := Lib.hid hrs
          have HSC := Lib.hid hsc
          have HRW := Lib.hid hrw
          have HMW := Lib.hid hmw
          clear hmw hrw hsc hrs hfr
          go_wp2_with (at_builtin; refine hold ?_; intro qG hG)
          refine hG.1 ?_; clear hG qG
          refine namedL ?_; intro U1 hU1
          have hb0 : Blk U1 W2.heap.size 3 [] := by rw [hU1]; exact Blk.new' _ 3 [] rfl
          have hfu : Frm W2.heap.size [] W2 U1 := by rw [hU1]; exact (Frm.refl _ _ W2).alloc (Nat.le_refl _) _
          have hone : ∀ u ∈ (List.range L).flatMap (fun j => [Value.int .i64 (at0 row j)]), u.oneCell' = true := by rw [HL.out, flat_at0]; exact intsC_one row
          clear hU1
          have HB0 := Lib.hid hb0
          have HFU := Lib.hid hfu
          have HONE := Lib.hid hone
          clear hone hfu hb0
          refine wpList_append_rw rfl (.tmp 50) (.tmp 51) 26 rfl 3 i0 _ 1 8 Tryd.underlying26 HI0.out HZ0.out HZ1.out HZ2.out rfl _ 0 [] _ rfl (sl_empty HB0.out) ad b off L cap (fun j => [.int .i64 (at0 row j)]) rfl (HRW.out.frm HFU.out (Nat.le_refl _)) (fun _ => rfl) (by omega) HONE.out (by have := HROW.out; have := HL.out; have := HNN.out; unfold maxLen; omega) (by have := HROW.out; have := HL.out; have := HNN.out; omega) ?_
          intro v52 U2 own52 hs52 hf52 ho52
          rw [Nat.zero_add, List.nil_append] at hs52
          have hfl : (List.range L).flatMap (fun j => [Value.int .i64 (at0 row j)]) = intsC row := by rw [HL.out]; exact flat_at0 row
          rw [hfl] at hs52
          have hS2 : Frm W2.heap.size [] W2 U2 := HFU.out.call hf52 HFU.out.size (fun x hx hm => by simp at hm; omega)
          have ho52' : ∀ b, own52 = some b → W2.heap.size ≤ b := fun b hb => by
            have hz := HFU.out.size
            rcases ho52 with h | ⟨g, h, hg⟩ <;> rw [h] at hb <;> cases hb
            · exact Nat.le_refl _
            · exact Nat.le_trans hz hg
          clear hf52 ho52 hfl HFU HB0 HONE
          have HS3 := Lib.hid hs52
          have HS2 := Lib.hid hS2
          have HO3 := Lib.hid ho52'
          clear ho52' hS2 hs52
          go_wp2_with (at_builtin; refine hold ?_; intro qG hG)
          refine hG.1 ?_; clear hG qG
          refine wpList_append_sl _ rfl (.tmp 52) (.tmp 54) 26 rfl 3 i0 _ 1 8 Tryd.underlying26 HI0.out HZ0.out HZ1.out HZ2.out rfl _ L (intsC row) own52 rfl (HS3.out.alloc _) ⟨U2.heap.size, 0, none⟩ 1 1 [.int .i64 (i : Int)] rfl rfl (news_alloc _ [.int .i64 (i : Int)] _) (by simp [Value.oneCell']) (by have := HROW.out; have := HL.out; have := HNN.out; unfold maxLen; omega) (by have := HROW.out; have := HL.out; have := HNN.out; omega) ?_
          intro v55 U4 own55 hs55 hf55 ho55
          have hS4 : Frm W2.heap.size [] W2 U4 := (HS2.out.alloc HS2.out.size _).call hf55 (by have := HS2.out.size; simp; omega) (fun x hx hm => by have := HO3.out x (by simpa using hm); omega)
          have ho55' : ∀ b, own55 = some b → W2.heap.size ≤ b := fun b hb => by
            rcases ho55 with h | ⟨g, h, hg⟩
            · exact HO3.out b (by rw [← h]; exact hb)
            · rw [hb] at h; cases h; have := HS2.out.size; simp at hg; omega
          have hs5 : Sl U4 3 1 v55 (L + 1) (intsC (row ++ [i])) own55 := by rw [intsC_snoc]; exact hs55
          have hL1 : L + 1 = (row ++ [i]).length := by rw [HL.out]; simp
          obtain ⟨ad5, b5, off5, cap5, he5, hr5⟩ := ints_at0 hs5
          obtain ⟨b6, off6, cap6, he6, ho6, _⟩ := hs5.pos (Nat.succ_pos _)
          have hb5 : W2.heap.size ≤ b5 := by
            have h1 := hr5.ad (Nat.succ_pos _)
            rw [he5, h1] at he6
            cases he6
            exact ho55' _ ho6
          subst he5
          have hrs5 := HRS.out.frm hS4 (Nat.le_refl _)
          have hm5 := HMW.out.frm hS4 (Nat.le_refl _)
          have hfr5 := HFR.out.call hS4 HFR.out.size (by simp)
          have hbo : 0 < L + 1 → owni ≠ some b5 := fun _ e => by have := HRS.out.lt b5 e; omega
          have hap := HM.out.apart HA.out HOI.out
          have hbn : (rs ++ rowsP n A d row i).length + n ^ d ≤ 50000 := by
            have h1 := rowsP_len n A d row i
            have h2 : (i + 1) * n ^ d ≤ n * n ^ d := Nat.mul_le_mul_right _ HIN.out
            rw [Nat.add_mul, Nat.one_mul] at h2
            have h3 := HBD.out
            rw [HPW.out] at h3
            rw [List.length_append]
            omega
          have hcall := IH.out (row ++ [i]) (by rw [← hL1]; have := HROW.out; have := HL.out; omega) ad5 b5 off5 (L + 1) cap5 (.slice ado N capo) (rs ++ rowsP n A d row i) owni U4 hL1 hm5 hr5 hrs5 hbo hap hbn
          have hfin : ∀ e W5, RowsIs ((rs ++ rowsP n A d row i) ++ rowsR n A d (row ++ [i])) owni U4 W5 e → ∃ v', e = .returned v' ∧ (∃ ownj, RowsAt W5 v' (rs ++ rowsP n A d row (i + 1)) ownj ∧ (ownj = own ∨ ∃ g, ownj = some g ∧ w.heap.size ≤ g)) ∧ Frm w.heap.size own.toList w W5 := fun e W5 hr => by
            obtain ⟨v', own', rfl, h1, h2, h3⟩ := hr
            rw [List.append_assoc, ← HSC.out] at h1
            refine ⟨v', rfl, ⟨own', h1, ?_⟩, hfr5.call h2 hfr5.size (fun x hx hm => ?_)⟩
            · rcases h3 with h | ⟨g, h, hg⟩
              · rw [h]; exact HOI.out
              · exact .inr ⟨g, h, Nat.le_trans hfr5.size hg⟩
            · rcases HOI.out with h | ⟨g, h, hg⟩
              · rw [← h]; exact hm
              · rw [h] at hm
                simp at hm
                omega
          clear hs55 hf55 ho55 hs5 hr5 he6 ho6 hb5 hrs5 hm5 hfr5 hbo hap hbn hS4 ho55' HS3 HS2 HO3 HRS HMW HRW HFR
          have HCALL := Lib.hid hcall
          have HFIN := Lib.hid hfin
          have HL1 := Lib.hid hL1
          clear hL1 hfin hcall
          go_wp2_with fail
          refine HCALL.out.mono ?_; rintro e W5 hr5
          obtain ⟨v', rfl, ⟨ownj, hj1, hj2⟩, hj3⟩ := HFIN.out e W5 hr5
          clear hr5 HCALL HFIN
          have HJ1 := Lib.hid hj1
          have HJ2 := Lib.hid hj2
          have HJ3 := Lib.hid hj3
          clear hj3 hj2 hj1
          go_wp2_with fail
          (try simp only [y4, y5])
          exact ⟨⟨i + 1, ownj, by simp, HIN.out, HJ1.out, HJ2.out, HJ3.out⟩, HMS.out⟩
theorem rows_any (n B : Nat) (f : Nat → Nat) (A : Nat → Nat → Bool) (hA : ∀ i j, i < n → A i j = (f i).testBit j) (hn : n ≤ 6) : ∀ d, RowsC n B f A d
  | 0 => rows_leaf n B f A hn
  | d + 1 => rows_step n B f A hA hn d (rows_any n B f A hA hn d)
end Go.Proofs.YtfmigicmfolbjaaDoor
