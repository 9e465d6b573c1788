/-
  A row of a plan, as the law makes it.
-/
import Derived.Test.YtfmigicmfolbjaaDoorN1
import Derived.Test.YtfmigicmfolbjaaDoorK5
namespace Go.Proofs.YtfmigicmfolbjaaDoor
set_option linter.all false
set_option linter.unusedSimpArgs false
set_option linter.unusedVariables false
open Go.RowKit

def okR (row : List Nat) (i j : Nat) : Bool := (row.take j).all fun x => x != i
theorem okR_succ {row : List Nat} {i j : Nat} (hj : j < row.length) : okR row i (j + 1) = (okR row i j && (row.getD j 0 != i)) := by
  unfold okR
  rw [takeN_snoc hj, List.all_append]
  simp
theorem okR_all (row : List Nat) (i : Nat) : okR row i row.length = !row.contains i := by
  unfold okR
  rw [List.take_length]
  induction row with
  | nil => rfl
  | cons x row ih =>
    rw [List.all_cons, List.contains_cons, ih]
    by_cases h : x = i
    · subst h; simp
    · have h2 : ¬ i = x := fun e => h e.symm
      have e1 : (x != i) = true := by simpa using h
      have e2 : (i == x) = false := by simpa using h2
      rw [e1, e2]; simp
def okA (A : Nat → Nat → Bool) (row : List Nat) (i : Nat) (ok : Bool) (k : Nat) : Bool := ok && (List.range k).all fun x => !A x i || row.contains x
theorem okA_zero (A : Nat → Nat → Bool) (row : List Nat) (i : Nat) (ok : Bool) : okA A row i ok 0 = ok := by simp [okA]
theorem okA_succ (A : Nat → Nat → Bool) (row : List Nat) (i : Nat) (ok : Bool) (k : Nat) : okA A row i ok (k + 1) = (okA A row i ok k && (!A k i || row.contains k)) := by
  unfold okA
  rw [List.range_succ, List.all_append]
  simp [Bool.and_assoc]
theorem okA_all (n : Nat) (A : Nat → Nat → Bool) (row : List Nat) (i : Nat) : okA A row i (!row.contains i) n = readyB n A row i := rfl
theorem inF_has (row : List Nat) (k : Nat) : inF (at0 row) row.length (k : Int) = row.contains k := by
  cases h : row.contains k
  · cases h2 : inF (at0 row) row.length (k : Int)
    · rfl
    · obtain ⟨i, hi, he⟩ := inF_iff.1 h2
      simp only [at0] at he
      have he : row.getD i 0 = k := by omega
      have : k ∈ row := by
        rw [← he]
        simp [List.getD_eq_getElem?_getD, hi]
      rw [List.contains_iff_mem.2 this] at h
      cases h
  · obtain ⟨i, hi, he⟩ := List.getElem_of_mem (List.contains_iff_mem.1 h)
    refine inF_yes hi ?_
    simp only [at0]
    rw [← he]
    simp [List.getD_eq_getElem?_getD, hi]
/-- The steps, of the first k, that can come. -/
def readyL (n : Nat) (A : Nat → Nat → Bool) (row : List Nat) (k : Nat) : List Nat := (List.range k).filter (readyB n A row)
theorem readyL_succ (n : Nat) (A : Nat → Nat → Bool) (row : List Nat) (k : Nat) : readyL n A row (k + 1) = if readyB n A row k = true then readyL n A row k ++ [k] else readyL n A row k := by
  unfold readyL
  rw [List.range_succ, List.filter_append]
  cases h : readyB n A row k <;> simp [h]
theorem readyL_len (n : Nat) (A : Nat → Nat → Bool) (row : List Nat) (k : Nat) : (readyL n A row k).length ≤ k := by
  unfold readyL
  exact Nat.le_trans (List.length_filter_le _ _) (by simp)
theorem readyL_pos {n : Nat} {A : Nat → Nat → Bool} (ho : Ord n A) {row : List Nat} (hl : Lin n A row) (hlt : row.length < n) : 0 < (readyL n A row n).length := by
  obtain ⟨i, _, hi, hr⟩ := firstNext_some ho hl hlt
  have : i ∈ readyL n A row n := by
    unfold readyL
    exact List.mem_filter.2 ⟨by simpa using hi, hr⟩
  exact List.length_pos_of_mem this
theorem readyL_lin {n : Nat} {A : Nat → Nat → Bool} (ho : Ord n A) {row : List Nat} (hl : Lin n A row) {t : Nat} (ht : t < (readyL n A row n).length) : Lin n A (row ++ [(readyL n A row n).getD t 0]) ∧ (readyL n A row n).getD t 0 < n := by
  have hm : (readyL n A row n).getD t 0 ∈ readyL n A row n := by
    simp [List.getD_eq_getElem?_getD, ht]
  have hm := List.mem_filter.1 (show _ ∈ (List.range n).filter (readyB n A row) from hm)
  have h1 := (ready_iff ho).1 hm.2
  have h2 : (readyL n A row n).getD t 0 < n := List.mem_range.1 hm.1
  exact ⟨hl.one h2 h1.1 h1.2, h2⟩
theorem lin_len {n : Nat} {A : Nat → Nat → Bool} {l : List Nat} (h : Lin n A l) : l.length ≤ n := len_le_of_nodup h.nodup h.lt
def lenOf : Value → Nat
  | .slice _ n _ => n
  | _ => 0
theorem rem_nat (a b : Nat) : Int.tmod (a : Int) (b : Int) = ((a % b : Nat) : Int) := by
  rw [Int.tmod_eq_emod_of_nonneg (by omega)]; rfl
/-- Bytes that are given. -/
structure BytesAt (w : World) (ad : Option Addr) (b off n : Nat) (T : Nat → Nat) : Prop where
  row : Rw w 1 ad b off n fun i => [.int .u8 (T i : Int)]
  lt : ∀ i, i < n → T i < 256
theorem BytesAt.frm {w w' : World} {ad : Option Addr} {b off n B : Nat} {T : Nat → Nat} (h : BytesAt w ad b off n T) (hf : Frm B [] w w') (hB : w.heap.size ≤ B) : BytesAt w' ad b off n T := ⟨h.row.frm hf hB, h.lt⟩
theorem BytesAt.cell {w : World} {b off n i : Nat} {ad : Option Addr} {T : Nat → Nat} (h : BytesAt w ad b off n T) (hi : i < n) : w.cell? ⟨b, off + i, none⟩ = some (.int .u8 (T i : Int)) := by
  have := h.row.at_ i hi 0 _ rfl
  simpa using this
def OrderIs (P : PL) (w' : World) (e : Ending) : Prop := ∃ (r : List Nat) (v : Value) (own : Option Nat), e = .returned v ∧ Sl w' 3 1 v r.length (intsC r) own ∧ IsRow P.n P.behind r
theorem orderIs {P : PL} {w' : World} {e : Ending} (r : List Nat) (v : Value) (own : Option Nat) (h : e = .returned v) (h1 : Sl w' 3 1 v r.length (intsC r) own) (h2 : IsRow P.n P.behind r) : OrderIs P w' e := ⟨r, v, own, h, h1, h2⟩
set_option maxRecDepth 100000 in
set_option maxHeartbeats 16000000 in
theorem order_any (q : RPos) (R : Raw) (P : PL) (hP : plannedO R = some P) (yad : Option Addr) (yb yo yn yc : Nat) (T : Nat → Nat) (w : World) (hr : RawAt w q R) (hy : BytesAt w yad yb yo yn T) :
    Calls Tryd.prog 36 #[.agg (rawC q R).toArray, .slice yad yn yc] w fun e w' => OrderIs P w' e ∧ Frm w.heap.size [] w w' := by
  have hf0 := Tryd.func36
  obtain ⟨n, hn⟩ : ∃ n, n = R.steps.length := ⟨_, rfl⟩
  obtain ⟨m, hm⟩ : ∃ n, n = R.edges.length := ⟨_, rfl⟩
  obtain ⟨i0, hi0⟩ : ∃ i0, Tryd.prog.info? 3 = some i0 := ⟨_, rfl⟩
  have hzz : i0.zero = some (.int .i64 0) ∧ i0.size = 1 ∧ i0.bytes = 8 := by cases hi0; exact ⟨rfl, rfl, rfl⟩
  obtain ⟨hz0, hz1, hz2⟩ := hzz
  have hraw : rawC q R = [q.s.v R.starts, .slice q.sa n q.sc, .slice q.ea m q.ec] := by rw [hn, hm]; rfl
  have hPn : P.n = n := by rw [hn]; exact planned_len hP
  have ho : Ord n P.behind := by rw [← hPn]; exact planned_ord hP
  have hn12 : n ≤ 12 := by rw [hn]; exact planned_n12 hP
  obtain ⟨a, ha, haf⟩ := planned_edges hP
  rw [← hn] at ha haf
  have hbeh : ∀ i j, i < n → P.behind i j = (closeK n a n i).testBit j := fun i j hi => by unfold PL.behind; rw [hPn, haf]; simp [hi]
  rw [hraw]
  have hlen : n ≤ maxLen := by unfold maxLen; omega
  have hyl : yn ≤ maxLen := hy.row.len
  clear haf
  have HR := Lib.hid hr
  have HN := Lib.hid hn
  have HM := Lib.hid hm
  have HP := Lib.hid hP
  have HY := Lib.hid hy
  have HRAW := Lib.hid hraw
  have HPN := Lib.hid hPn
  have HO := Lib.hid ho
  have HN12 := Lib.hid hn12
  have HA := Lib.hid ha
  have HBEH := Lib.hid hbeh
  have HI0 := Lib.hid hi0
  have HZ0 := Lib.hid hz0
  have HZ1 := Lib.hid hz1
  have HZ2 := Lib.hid hz2
  clear hz2 hz1 hz0 hi0 hbeh ha hn12 ho hPn hraw hy hP hm hn hr
  go_enter Tryd.func36, Tryd.ntmps36
  go_upto_region 1 with fail
  refine namedC ?_; intro W hW
  obtain ⟨c, hc⟩ : ∃ c, c = w.heap.size := ⟨_, rfl⟩
  have k0 : Blk W c 66 [q.s.v R.starts, .slice q.sa n q.sc, .slice q.ea m q.ec] := by rw [hW, hc]; exact Blk.new w 66 [q.s.v R.starts, .slice q.sa n q.sc, .slice q.ea m q.ec]
  have hf : Frm w.heap.size [] w W := by rw [hW]; repeat (first | with_reducible exact Frm.refl _ _ _ | with_reducible refine Frm.drewN ?_ | with_reducible refine Frm.drew ?_ | ((with_reducible refine Frm.setCell' ?_ ?_); · first | (left; simp; done) | (right; simp; done) | (right; simp; omega)) | ((with_reducible refine Frm.alloc' ?_ ?_); · first | exact Nat.le_refl _ | (simp; done) | (simp; omega)))
  clear hW hf0
  rw [← hc]
  clear hc
  have c1 : W.cell? ⟨c, 1, none⟩ = some (.slice q.sa n q.sc) := k0.cell 1
  have c2 : W.cell? ⟨c, 2, none⟩ = some (.slice q.ea m q.ec) := k0.cell 2
  have hah := ahead_any n HN12.out R.edges q.ea q.eb q.eo q.ec a HA.out W ((HR.out.frm hf (Nat.le_refl _)).edges)
  rw [← HM.out] at hah
  obtain ⟨B, hB⟩ : ∃ B, B = W.heap.size := ⟨_, rfl⟩
  rw [← hB] at hah
  have K0 := Lib.hid k0
  have HF := Lib.hid hf
  have HAH := Lib.hid hah
  have HB := Lib.hid hB
  clear hB hah hf k0
  go_wp2_with fail
  refine HAH.out.mono ?_; rintro e W1 ⟨rfl, hmat, hf1⟩
  rw [HB.out] at hf1
  have k0 := hf1.blk K0.out K0.out.lt (by simp)
  have hf := HF.out.call hf1 HF.out.size (by simp)
  clear hf1 K0 HF HAH c1 c2
  have K0 := Lib.hid k0
  have HF := Lib.hid hf
  have HMAT := Lib.hid hmat
  clear hmat hf k0
  go_wp2_with fail
  -- the row
  go_loopw [6] (fun s6 wr => ∃ (row : List Nat) (own : Option Nat), Sl wr 3 1 s6 row.length (intsC row) own ∧ (∀ b, own = some b → W1.heap.size ≤ b) ∧ Lin n P.behind row ∧ Frm W1.heap.size [] W1 wr) (fun s6 _ => n - lenOf s6)
  case atStart => exact ⟨[], none, Sl.nil _ _ _, (fun b hb => by cases hb), .nil, Frm.refl _ _ _⟩
  case round =>
    obtain ⟨row, own6, hs6, ho6, hlin, hfr⟩ := hrel
    obtain ⟨L, hL⟩ : ∃ L, L = row.length := ⟨_, rfl⟩
    have hLn : L ≤ n := by rw [hL]; exact lin_len hlin
    have k1 := hfr.blk K0.out K0.out.lt (by simp)
    have c1 : wr.cell? ⟨c, 1, none⟩ = some (.slice q.sa n q.sc) := k1.cell 1
    obtain ⟨ad6, b6, off6, cap6, rfl, hr6⟩ := ints_at0 hs6
    rw [← hL] at hs6 hr6 ⊢
    by_cases hLlt : L < n
    rotate_left
    · have hLlt' : ¬ (L : Int) < (n : Int) := by omega
      obtain rfl : L = n := by omega
      have hrow : IsRow L P.behind row := ⟨hlin, hL.symm⟩
      clear hlin k1 hr6 ho6
      have HS6 := Lib.hid hs6
      have HROW := Lib.hid hrow
      have HFR := Lib.hid hfr
      have HL := Lib.hid hL
      clear hL hfr hrow hs6
      go_wp2_with fail
      go_ret
      exact ⟨orderIs row _ own6 rfl (by rw [← HL.out]; exact HS6.out) (by rw [HPN.out]; exact HROW.out), HF.out.call HFR.out HF.out.size (by simp)⟩
    have hLlt' : (L : Int) < (n : Int) := by omega
    obtain ⟨W2, hW2⟩ : ∃ V, V = wr := ⟨_, rfl⟩
    rw [← hW2] at hs6 hr6 hfr k1 c1 ⊢
    clear hW2
    have hLl : L ≤ maxLen := Nat.le_trans (Nat.le_of_lt hLlt) hlen
    have HS6 := Lib.hid hs6
    have HR6 := Lib.hid hr6
    have HO6 := Lib.hid ho6
    have HLIN := Lib.hid hlin
    have HFR := Lib.hid hfr
    have K1 := Lib.hid k1
    have HL := Lib.hid hL
    have HLLT := Lib.hid hLlt
    clear hLlt hL k1 hfr hlin ho6 hr6 hs6
    go_wp2_with fail
    clear c1
    -- which can come
    go_loopw [7, 8] (fun s7 s8 wr => ∃ (i : Nat) (own7 : Option Nat), s8 = .int .i64 i ∧ i ≤ n ∧ Sl wr 3 1 s7 (readyL n P.behind row i).length (intsC (readyL n P.behind row i)) own7 ∧ (∀ b, own7 = some b → W2.heap.size ≤ b) ∧ Frm W2.heap.size [] W2 wr) (fun _ s8 _ => n - (intOf s8).toNat)
    case atStart => exact ⟨0, none, rfl, Nat.zero_le _, Sl.nil _ _ _, (fun b hb => by cases hb), Frm.refl _ _ _⟩
    case round =>
      obtain ⟨i, own7, rfl, hi, hs7, ho7, hfi⟩ := hrel
      have k2 := hfi.blk K1.out K1.out.lt (by simp)
      have d1 : wr.cell? ⟨c, 1, none⟩ = some (.slice q.sa n q.sc) := k2.cell 1
      obtain ⟨l7, hl7⟩ : ∃ l, l = (readyL n P.behind row i).length := ⟨_, rfl⟩
      have hl712 : l7 ≤ 12 := by have := readyL_len n P.behind row i; have := HN12.out; omega
      rw [← hl7] at hs7
      by_cases hin : i < n
      rotate_left
      · have hin' : ¬ (i : Int) < (n : Int) := by omega
        obtain rfl : i = n := by omega
        obtain ⟨ad7, b7, off7, cap7, rfl, hr7⟩ := ints_at0 (by rw [hl7] at hs7; exact hs7)
        rw [← hl7] at hr7 ⊢
        obtain ⟨W5, hW5⟩ : ∃ V, V = wr := ⟨_, rfl⟩
        rw [← hW5] at hr7 hfi d1 ⊢
        have hf5 := HFR.out.call hfi HFR.out.size (by simp)
        have hs65 := HS6.out.frm hfi (fun b hb => HS6.out.lt b hb) (by simp)
        have hy5 := HY.out.frm (HF.out.call hf5 HF.out.size (by simp)) (Nat.le_refl _)
        clear hW5 hs7 ho7 k2 hfi HS6 hi
        have HR7 := Lib.hid hr7
        have HF5 := Lib.hid hf5
        have HS6 := Lib.hid hs65
        have HY5 := Lib.hid hy5
        have HL7 := Lib.hid hl7
        have HL712 := Lib.hid hl712
        clear hl712 hl7 hy5 hs65 hf5 hr7
        by_cases hyn : 0 < yn
        · have hyn' : (0 : Int) < (yn : Int) := by omega
          have hyn0 : ¬ (yn : Int) = 0 := by omega
          obtain ⟨z, hz⟩ : ∃ z, z = L % yn := ⟨_, rfl⟩
          have hzl : z < yn := by rw [hz]; exact Nat.mod_lt _ hyn
          have hzl' : (z : Int) < (yn : Int) := by omega
          have hyad := HY5.out.row.ad hyn
          subst hyad
          obtain ⟨wh, hwh⟩ : ∃ x, x = T z := ⟨_, rfl⟩
          have e0 : W5.cell? ⟨yb, yo + z, none⟩ = some (.int .u8 (wh : Int)) := by rw [hwh]; exact HY5.out.cell hzl
          have hwl : wh < 256 := by rw [hwh]; exact HY5.out.lt z hzl
          have e7 : IntKind.i64.wrap (z : Int) = (z : Int) := IntWalk.i64_in _ (by unfold maxLen at hyl; omega)
          have e8 : wrap64 (z : Int) = (z : Int) := IntWalk.wrap64_in _ (by unfold maxLen at hyl; omega)
          have e9 : IntKind.i64.wrap (wh : Int) = (wh : Int) := IntWalk.i64_in _ (by omega)
          have hrem : Int.tmod (L : Int) (yn : Int) = (z : Int) := by rw [hz]; exact rem_nat _ _
          clear hz hwh
          have HZL := Lib.hid hzl
          have HYN := Lib.hid hyn
          clear hyn hzl
          go_upto_region 22 with fail
          clear hrem hyn' hyn0 hzl' e0 e7 e8 d1
          have hl7 : 0 < l7 := by rw [HL7.out]; exact readyL_pos HO.out HLIN.out (by rw [← HL.out]; exact HLLT.out)
          obtain ⟨z2, hz2⟩ : ∃ z, z = wh % l7 := ⟨_, rfl⟩
          have hz2l : z2 < l7 := by rw [hz2]; exact Nat.mod_lt _ hl7
          have hll := readyL_lin (n := i) (A := P.behind) HO.out HLIN.out (t := z2) (by rw [← HL7.out]; exact hz2l)
          obtain ⟨x, hx⟩ : ∃ x, x = (readyL i P.behind row i).getD z2 0 := ⟨_, rfl⟩
          rw [← hx] at hll
          have had7 := HR7.out.ad hl7
          subst had7
          have e1 : W5.cell? ⟨b7, off7 + z2, none⟩ = some (.int .i64 (x : Int)) := by rw [hx]; exact HR7.out.cellI hz2l
          have e2 : ¬ (l7 : Int) = 0 := by omega
          have e4 : (z2 : Int) < (l7 : Int) := by omega
          have e5 : IntKind.i64.wrap (z2 : Int) = (z2 : Int) := IntWalk.i64_in _ (by have := HL712.out; omega)
          have e6 : wrap64 (z2 : Int) = (z2 : Int) := IntWalk.wrap64_in _ (by have := HL712.out; omega)
          have hl7b : IntKind.i64.wrap (l7 : Int) = (l7 : Int) := IntWalk.i64_in _ (by have := HL712.out; omega)
          have hlin2 : Lin i P.behind (row ++ [x]) := hll.1
          have e3 : Int.tmod (wh : Int) (l7 : Int) = (z2 : Int) := by rw [hz2]; exact rem_nat _ _
          clear hx hll hz2 HR7
          have HLIN2 := Lib.hid hlin2
          have HZ2L := Lib.hid hz2l
          have HL7P := Lib.hid hl7
          clear hl7 hz2l hlin2
          go_wp2_with (at_builtin; refine hold ?_; intro qG hG)
          refine hG.1 ?_; clear hG qG
          clear e1 e2 e3 e4 e5 e6 hl7b
          refine wpList_append_sl _ rfl (.tmp 87) (.tmp 95) 26 rfl 3 i0 _ 1 8 Tryd.underlying26 HI0.out HZ0.out HZ1.out HZ2.out rfl _ L (intsC row) own6 rfl (HS6.out.alloc _) ⟨W5.heap.size, 0, none⟩ 1 1 [.int .i64 (x : Int)] rfl rfl (news_alloc _ [.int .i64 (x : Int)] _) (by simp [Value.oneCell']) (by have := HLLT.out; have := HN12.out; unfold maxLen; omega) (by have := HLLT.out; have := HN12.out; omega) ?_
          intro v8 w8 own8 hs8 hf8 ho8
          have hf9 : Frm W1.heap.size [] W1 w8 := (HF5.out.alloc HF5.out.size _).call hf8 (by have := HF5.out.size; simp; omega) (fun x hx hm => by have := HO6.out x (by simpa using hm); omega)
          have ho9 : ∀ b, own8 = some b → W1.heap.size ≤ b := fun b hb => by
            rcases ho8 with h | ⟨g, h, hg⟩
            · exact HO6.out b (by rw [← h]; exact hb)
            · rw [hb] at h; cases h; have := HF5.out.size; simp at hg; omega
          have hl1 : L + 1 = (row ++ [x]).length := by rw [HL.out]; simp
          have hs9 : Sl w8 3 1 v8 (row ++ [x]).length (intsC (row ++ [x])) own8 := by rw [← hl1, intsC_snoc]; exact hs8
          obtain ⟨ad8, cp8, rfl⟩ := hs9.form
          have hfin : ∃ (row2 : List Nat) (own : Option Nat), Sl w8 3 1 (.slice ad8 (row ++ [x]).length cp8) row2.length (intsC row2) own ∧ (∀ b, own = some b → W1.heap.size ≤ b) ∧ Lin i P.behind row2 ∧ Frm W1.heap.size [] W1 w8 := ⟨row ++ [x], own8, hs9, ho9, HLIN2.out, hf9⟩
          have hmes : i - lenOf (.slice ad8 (row ++ [x]).length cp8) < i - lenOf (.slice ad6 L cap6) := by
            show i - (row ++ [x]).length < i - L
            have := HLLT.out
            omega
          simp only [List.length_append, List.length_cons, List.length_nil, Nat.zero_add] at hfin hmes
          clear hs8 hf8 ho8 hf9 ho9 hl1 hs9
          have HFIN := Lib.hid hfin
          have HMES := Lib.hid hmes
          clear hmes hfin
          go_wp2_with fail
          exact ⟨HFIN.out, HMES.out⟩
        · have hyn' : ¬ (0 : Int) < (yn : Int) := by omega
          go_upto_region 22 with fail
          clear hyn' d1 hyn
          obtain ⟨wh, hwh⟩ : ∃ x : Nat, x = 0 := ⟨_, rfl⟩
          have hw0 : (0 : Int) = (wh : Int) := by omega
          have hwl : wh < 256 := by omega
          rw [hw0]
          clear hwh hw0
          have hl7 : 0 < l7 := by rw [HL7.out]; exact readyL_pos HO.out HLIN.out (by rw [← HL.out]; exact HLLT.out)
          obtain ⟨z2, hz2⟩ : ∃ z, z = wh % l7 := ⟨_, rfl⟩
          have hz2l : z2 < l7 := by rw [hz2]; exact Nat.mod_lt _ hl7
          have hll := readyL_lin (n := i) (A := P.behind) HO.out HLIN.out (t := z2) (by rw [← HL7.out]; exact hz2l)
          obtain ⟨x, hx⟩ : ∃ x, x = (readyL i P.behind row i).getD z2 0 := ⟨_, rfl⟩
          rw [← hx] at hll
          have had7 := HR7.out.ad hl7
          subst had7
          have e1 : W5.cell? ⟨b7, off7 + z2, none⟩ = some (.int .i64 (x : Int)) := by rw [hx]; exact HR7.out.cellI hz2l
          have e2 : ¬ (l7 : Int) = 0 := by omega
          have e4 : (z2 : Int) < (l7 : Int) := by omega
          have e5 : IntKind.i64.wrap (z2 : Int) = (z2 : Int) := IntWalk.i64_in _ (by have := HL712.out; omega)
          have e6 : wrap64 (z2 : Int) = (z2 : Int) := IntWalk.wrap64_in _ (by have := HL712.out; omega)
          have hl7b : IntKind.i64.wrap (l7 : Int) = (l7 : Int) := IntWalk.i64_in _ (by have := HL712.out; omega)
          have hlin2 : Lin i P.behind (row ++ [x]) := hll.1
          have e3 : Int.tmod (wh : Int) (l7 : Int) = (z2 : Int) := by rw [hz2]; exact rem_nat _ _
          clear hx hll hz2 HR7
          have HLIN2 := Lib.hid hlin2
          have HZ2L := Lib.hid hz2l
          have HL7P := Lib.hid hl7
          clear hl7 hz2l hlin2
          go_wp2_with (at_builtin; refine hold ?_; intro qG hG)
          refine hG.1 ?_; clear hG qG
          clear e1 e2 e3 e4 e5 e6 hl7b
          refine wpList_append_sl _ rfl (.tmp 87) (.tmp 95) 26 rfl 3 i0 _ 1 8 Tryd.underlying26 HI0.out HZ0.out HZ1.out HZ2.out rfl _ L (intsC row) own6 rfl (HS6.out.alloc _) ⟨W5.heap.size, 0, none⟩ 1 1 [.int .i64 (x : Int)] rfl rfl (news_alloc _ [.int .i64 (x : Int)] _) (by simp [Value.oneCell']) (by have := HLLT.out; have := HN12.out; unfold maxLen; omega) (by have := HLLT.out; have := HN12.out; omega) ?_
          intro v8 w8 own8 hs8 hf8 ho8
          have hf9 : Frm W1.heap.size [] W1 w8 := (HF5.out.alloc HF5.out.size _).call hf8 (by have := HF5.out.size; simp; omega) (fun x hx hm => by have := HO6.out x (by simpa using hm); omega)
          have ho9 : ∀ b, own8 = some b → W1.heap.size ≤ b := fun b hb => by
            rcases ho8 with h | ⟨g, h, hg⟩
            · exact HO6.out b (by rw [← h]; exact hb)
            · rw [hb] at h; cases h; have := HF5.out.size; simp at hg; omega
          have hl1 : L + 1 = (row ++ [x]).length := by rw [HL.out]; simp
          have hs9 : Sl w8 3 1 v8 (row ++ [x]).length (intsC (row ++ [x])) own8 := by rw [← hl1, intsC_snoc]; exact hs8
          obtain ⟨ad8, cp8, rfl⟩ := hs9.form
          have hfin : ∃ (row2 : List Nat) (own : Option Nat), Sl w8 3 1 (.slice ad8 (row ++ [x]).length cp8) row2.length (intsC row2) own ∧ (∀ b, own = some b → W1.heap.size ≤ b) ∧ Lin i P.behind row2 ∧ Frm W1.heap.size [] W1 w8 := ⟨row ++ [x], own8, hs9, ho9, HLIN2.out, hf9⟩
          have hmes : i - lenOf (.slice ad8 (row ++ [x]).length cp8) < i - lenOf (.slice ad6 L cap6) := by
            show i - (row ++ [x]).length < i - L
            have := HLLT.out
            omega
          simp only [List.length_append, List.length_cons, List.length_nil, Nat.zero_add] at hfin hmes
          clear hs8 hf8 ho8 hf9 ho9 hl1 hs9
          have HFIN := Lib.hid hfin
          have HMES := Lib.hid hmes
          clear hmes hfin
          go_wp2_with fail
          exact ⟨HFIN.out, HMES.out⟩
      have hin' : (i : Int) < (n : Int) := by omega
      obtain ⟨y4, y5⟩ := wrapUp hin hlen
      have hms := meas_up hin
      obtain ⟨ad7, cap7, rfl⟩ := hs7.form
      obtain ⟨W3, hW3⟩ : ∃ V, V = wr := ⟨_, rfl⟩
      rw [← hW3] at hs7 hfi k2 d1 ⊢
      have hmt := HMAT.out.frm (HFR.out.call hfi HFR.out.size (by simp)) (Nat.le_refl _)
      have hr63 := HR6.out.frm hfi (Nat.le_refl _)
      clear hW3 hi
      have HS7 := Lib.hid hs7
      have HO7 := Lib.hid ho7
      have HFI := Lib.hid hfi
      have K2 := Lib.hid k2
      have HL7 := Lib.hid hl7
      have HL712 := Lib.hid hl712
      have HIN := Lib.hid hin
      have HMS := Lib.hid hms
      have HMT := Lib.hid hmt
      have HR63 := Lib.hid hr63
      clear hr63 hmt hms hin hl712 hl7 k2 hfi ho7 hs7
      have hin := HIN.out
      go_wp2_with fail
      clear d1 hin'
      go_loopw [9, 10] (fun s9 s10 wr => ∃ j : Nat, s10 = .int .i64 j ∧ j ≤ L ∧ s9 = .bool (okR row i j) ∧ wr = W3) (fun _ s10 _ => L - (intOf s10).toNat)
      case atStart => exact ⟨0, rfl, Nat.zero_le _, rfl, rfl⟩
      case round =>
        obtain ⟨j, rfl, hj, rfl, hww⟩ := hrel
        have hww' := hww.symm
        subst hww'
        by_cases hjL : j < L
        · have hjL' : (j : Int) < (L : Int) := by omega
          obtain ⟨x4, x5⟩ := wrapUp hjL hLl
          have hms2 := meas_up hjL
          have had6 := HR63.out.ad (Nat.lt_of_le_of_lt (Nat.zero_le _) hjL)
          subst had6
          obtain ⟨x, hx⟩ : ∃ x, x = row.getD j 0 := ⟨_, rfl⟩
          have e1 : W3.cell? ⟨b6, off6 + j, none⟩ = some (.int .i64 (x : Int)) := by rw [hx]; exact HR63.out.cellI hjL
          have hnx := okR_succ (row := row) (i := i) (j := j) (by rw [← HL.out]; exact hjL)
          rw [← hx] at hnx
          clear hx
          cases hv : okR row i j
          · rw [hv] at hnx
            have HJL := Lib.hid hjL
            have HMS2 := Lib.hid hms2
            have HNX := Lib.hid hnx
            have HV := Lib.hid hv
            clear hv hnx hms2 hjL
            go_wp2_with fail
            (try simp only [x4, x5])
            exact ⟨⟨j + 1, by simp, HJL.out, by rw [HNX.out]; rfl, trivial⟩, HMS2.out⟩
          · rw [hv] at hnx
            by_cases hxi : x = i
            · subst hxi
              have HJL := Lib.hid hjL
              have HMS2 := Lib.hid hms2
              have HNX := Lib.hid hnx
              have HV := Lib.hid hv
              clear hv hnx hms2 hjL
              go_wp2_with fail
              (try simp only [x4, x5])
              exact ⟨⟨j + 1, by simp, HJL.out, by rw [HNX.out]; simp, trivial⟩, HMS2.out⟩
            · have hxi' : ¬ (x : Int) = (i : Int) := by omega
              have hxb : (x != i) = true := by simpa using hxi
              have hxb2 : ((x : Int) != (i : Int)) = true := by simpa using hxi'
              rw [hxb] at hnx
              have HJL := Lib.hid hjL
              have HMS2 := Lib.hid hms2
              have HNX := Lib.hid hnx
              have HV := Lib.hid hv
              have HXB := Lib.hid hxb
              clear hxb hv hnx hms2 hjL
              go_wp2_with fail
              (try simp only [x4, x5])
              exact ⟨⟨j + 1, by simp, HJL.out, by rw [HNX.out]; rfl, trivial⟩, HMS2.out⟩
        · have hjL' : ¬ (j : Int) < (L : Int) := by omega
          obtain rfl : j = L := by omega
          obtain ⟨ok, hok⟩ : ∃ o, o = okR row i j := ⟨_, rfl⟩
          rw [← hok]
          rw [HL.out, okR_all] at hok
          have d1 : W3.cell? ⟨c, 1, none⟩ = some (.slice q.sa n q.sc) := K2.out.cell 1
          have HOK := Lib.hid hok
          clear hok
          go_wp2_with fail
          clear d1
          -- what has to be ahead
          go_loopw [9, 11] (fun s9 s11 wr => ∃ k : Nat, s11 = .int .i64 k ∧ k ≤ n ∧ s9 = .bool (okA P.behind row i ok k) ∧ Frm W3.heap.size [] W3 wr) (fun _ s11 _ => n - (intOf s11).toNat)
          case atStart => exact ⟨0, rfl, Nat.zero_le _, by rw [okA_zero], Frm.refl _ _ _⟩
          case round =>
            obtain ⟨k, rfl, hk, rfl, hfk⟩ := hrel
            have k3 := hfk.blk K2.out K2.out.lt (by simp)
            have d1 : wr.cell? ⟨c, 1, none⟩ = some (.slice q.sa n q.sc) := k3.cell 1
            by_cases hkn : k < n
            · have hkn' : (k : Int) < (n : Int) := by omega
              obtain ⟨x4, x5⟩ := wrapUp hkn hlen
              have hms2 := meas_up hkn
              have hm3 := HMT.out.frm hfk (Nat.le_refl _)
              obtain ⟨rk, hrk⟩ : ∃ r, r = B + 1 + k := ⟨_, rfl⟩
              obtain ⟨bt, hbt⟩ : ∃ b, b = (closeK n a n k).testBit i := ⟨_, rfl⟩
              have m1 : wr.cell? ⟨B, k, none⟩ = some (.slice (some ⟨rk, 0, none⟩) n n) := by rw [hrk]; exact hm3.row hkn
              have m2 : wr.cell? ⟨rk, i, none⟩ = some (.bool bt) := by rw [hrk, hbt]; exact hm3.bit hkn hin
              have hnx := okA_succ P.behind row i ok k
              rw [HBEH.out k i hkn, ← hbt] at hnx
              have hia := in_any ad6 b6 off6 j cap6 (at0 row) (k : Int) wr (HR63.out.frm hfk (Nat.le_refl _))
              have hih : inF (at0 row) j (k : Int) = row.contains k := by rw [HL.out]; exact inF_has row k
              rw [hih] at hia
              obtain ⟨hs, hhs⟩ : ∃ x, x = row.contains k := ⟨_, rfl⟩
              rw [← hhs] at hia hnx
              clear hm3 hrk hbt hih hhs k3
              cases hv : okA P.behind row i ok k
              · rw [hv, Bool.false_and] at hnx
                have HKN := Lib.hid hkn
                have HMS2 := Lib.hid hms2
                have HNX := Lib.hid hnx
                have HV := Lib.hid hv
                have HFK := Lib.hid hfk
                have HIA := Lib.hid hia
                clear hia hfk hv hnx hms2 hkn
                go_wp2_with fail
                (try simp only [x4, x5])
                exact ⟨⟨k + 1, by simp, HKN.out, by rw [HNX.out], HFK.out⟩, HMS2.out⟩
              · rw [hv, Bool.true_and] at hnx
                cases bt
                · rw [Bool.not_false, Bool.true_or] at hnx
                  have HKN := Lib.hid hkn
                  have HMS2 := Lib.hid hms2
                  have HNX := Lib.hid hnx
                  have HV := Lib.hid hv
                  have HFK := Lib.hid hfk
                  have HIA := Lib.hid hia
                  clear hia hfk hv hnx hms2 hkn
                  go_wp2_with fail
                  (try simp only [x4, x5])
                  exact ⟨⟨k + 1, by simp, HKN.out, by rw [HNX.out], HFK.out⟩, HMS2.out⟩
                · rw [Bool.not_true, Bool.false_or] at hnx
                  have HKN := Lib.hid hkn
                  have HMS2 := Lib.hid hms2
                  have HNX := Lib.hid hnx
                  have HV := Lib.hid hv
                  have HFK := Lib.hid hfk
                  have HIA := Lib.hid hia
                  clear hia hfk hv hnx hms2 hkn
                  go_wp2_with (go_at_call 26; refine HIA.out.mono ?_; rintro e9 w9 ⟨rfl, hf9⟩; replace HFK := Lib.hid (HFK.out.call hf9 HFK.out.size (by simp)); clear hf9)
                  (try simp only [x4, x5])
                  exact ⟨⟨k + 1, by simp, HKN.out, by rw [HNX.out], HFK.out⟩, HMS2.out⟩
            · have hkn' : ¬ (k : Int) < (n : Int) := by omega
              obtain rfl : k = n := by omega
              have hrd : okA P.behind row i ok k = readyB k P.behind row i := by rw [HOK.out]; exact okA_all k P.behind row i
              rw [hrd]
              have hnx := readyL_succ k P.behind row i
              have hf4 := HFI.out.call hfk HFI.out.size (by simp)
              have hs4 := HS7.out.frm hfk (fun b hb => HS7.out.lt b hb) (by simp)
              clear hrd k3
              cases hb : readyB k P.behind row i
              · rw [hb, if_neg (by simp)] at hnx
                have HNX := Lib.hid hnx
                have HF4 := Lib.hid hf4
                have HS4 := Lib.hid hs4
                have HBB := Lib.hid hb
                clear hb hs4 hf4 hnx
                go_wp2_with fail
                (try simp only [y4, y5])
                exact ⟨⟨i + 1, own7, by simp, HIN.out, by rw [HNX.out, ← HL7.out]; exact HS4.out, HO7.out, HF4.out⟩, HMS.out⟩
              · rw [hb, if_pos rfl] at hnx
                obtain ⟨W4, hW4⟩ : ∃ V, V = wr := ⟨_, rfl⟩
                rw [← hW4] at hf4 hs4 d1 ⊢
                clear hW4 hfk
                have HNX := Lib.hid hnx
                have HF4 := Lib.hid hf4
                have HS4 := Lib.hid hs4
                have HBB := Lib.hid hb
                clear hb hs4 hf4 hnx
                go_wp2_with (at_builtin; refine hold ?_; intro qG hG)
                refine hG.1 ?_; clear hG qG
                clear d1
                refine wpList_append_sl _ rfl (.tmp 71) (.tmp 73) 26 rfl 3 i0 _ 1 8 Tryd.underlying26 HI0.out HZ0.out HZ1.out HZ2.out rfl _ l7 (intsC (readyL k P.behind row i)) own7 rfl (HS4.out.alloc _) ⟨W4.heap.size, 0, none⟩ 1 1 [.int .i64 (i : Int)] rfl rfl (news_alloc _ [.int .i64 (i : Int)] _) (by simp [Value.oneCell']) (by have := HL712.out; unfold maxLen; omega) (by have := HL712.out; omega) ?_
                intro v8 w8 own8 hs8 hf8 ho8
                have hf9 : Frm W2.heap.size [] W2 w8 := (HF4.out.alloc HF4.out.size _).call hf8 (by have := HF4.out.size; simp; omega) (fun x hx hm => by have := HO7.out x (by simpa using hm); omega)
                have ho9 : ∀ b, own8 = some b → W2.heap.size ≤ b := fun b hb => by
                  rcases ho8 with h | ⟨g, h, hg⟩
                  · exact HO7.out b (by rw [← h]; exact hb)
                  · rw [hb] at h; cases h; have := HF4.out.size; simp at hg; omega
                have hl8 : (readyL k P.behind row (i + 1)).length = l7 + 1 := by rw [HNX.out, HL7.out]; simp
                have hs9 : Sl w8 3 1 v8 (readyL k P.behind row (i + 1)).length (intsC (readyL k P.behind row (i + 1))) own8 := by rw [hl8, HNX.out, intsC_snoc]; exact hs8
                obtain ⟨ad8, cp8, rfl⟩ := hs9.form
                clear hs8 hf8 ho8
                have HS9 := Lib.hid hs9
                have HO9 := Lib.hid ho9
                have HF9 := Lib.hid hf9
                have HL8 := Lib.hid hl8
                clear hl8 hf9 ho9 hs9
                go_wp2_with fail
                (try simp only [y4, y5])
                exact ⟨⟨i + 1, own8, by simp, HIN.out, HS9.out, HO9.out, HF9.out⟩, HMS.out⟩
end Go.Proofs.YtfmigicmfolbjaaDoor
