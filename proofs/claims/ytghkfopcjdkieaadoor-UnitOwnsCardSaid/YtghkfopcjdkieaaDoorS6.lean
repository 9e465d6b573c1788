/-
  The document's choice: the best one that goes on from one.
-/
import Derived.Test.YtghkfopcjdkieaaDoorS5
namespace Go.Proofs.YtghkfopcjdkieaaDoor
set_option linter.all false
set_option linter.unusedSimpArgs false
set_option linter.unusedVariables false
open Go.RowKit

attribute [local go_sem ↓ high] run_min_ run_max_ run_min2 run_max2
theorem LeftL.three {P : Program} {l : List Oper} {Q : Exit → Act → World → Prop} {S : World → Prop} {t : Nat} {done : List Nat} {a : Act} {w : World} (i i' i'' : Nat) {o o' o'' : Oper} (ho : l[i]? = some o) (ho' : l[i']? = some o') (ho'' : l[i'']? = some o'') (hB : (decide (done.length < l.length) && decide (Region.ready .any l.toArray (doneOf l done) = [i, i', i''])) = true)
    (h : wpList P l.toArray (Exit.then (fun a' w' => (i ≠ t → S w') ∧ LeftL P l Q S t (done ++ [i]) a' w') Q) [o] a w)
    (h' : wpList P l.toArray (Exit.then (fun a' w' => (i' ≠ t → S w') ∧ LeftL P l Q S t (done ++ [i']) a' w') Q) [o'] a w)
    (h'' : wpList P l.toArray (Exit.then (fun a' w' => (i'' ≠ t → S w') ∧ LeftL P l Q S t (done ++ [i'']) a' w') Q) [o''] a w) : LeftL P l Q S t done a w := by
  simp only [Bool.and_eq_true, decide_eq_true_eq] at hB
  unfold LeftL
  rw [show l.length - done.length = (l.length - (done.length + 1)) + 1 by omega]
  refine ⟨fun h0 => (by rw [hB.2] at h0; cases h0), fun j hj => ?_⟩
  rw [hB.2] at hj
  simp only [List.mem_cons, List.not_mem_nil, or_false] at hj
  rcases hj with rfl | rfl | rfl
  · exact LeftL.op ho hB.1 h
  · exact LeftL.op ho' hB.1 h'
  · exact LeftL.op ho'' hB.1 h''
def stepR (A : Nat → Nat → Int) (s : SC) (c : List Nat) : SC := if betterB ⟨c, lateC A c, sumC A c, true⟩ s = true then ⟨c, lateC A c, sumC A c, true⟩ else s
theorem lateN_snoc (A : Nat → Nat → Int) (l : List Nat) (i : Nat) : ∀ k, k ≤ l.length → lateN A (l ++ [i]) k = lateN A l k ∧ sumN A (l ++ [i]) k = sumN A l k
  | 0, _ => ⟨rfl, rfl⟩
  | k + 1, hk => by
    obtain ⟨h1, h2⟩ := lateN_snoc A l i k (by omega)
    have h3 : (l ++ [i]).getD k 0 = l.getD k 0 := by
      rw [List.getD_eq_getElem?_getD, List.getD_eq_getElem?_getD, List.getElem?_append_left (by omega)]
    unfold lateN sumN
    rw [h1, h2, h3]
    exact ⟨rfl, rfl⟩
theorem lateC_snoc (A : Nat → Nat → Int) (l : List Nat) (i : Nat) : lateC A (l ++ [i]) = max (lateC A l) (A l.length i) ∧ sumC A (l ++ [i]) = sumC A l + A l.length i := by
  obtain ⟨h1, h2⟩ := lateN_snoc A l i l.length (Nat.le_refl _)
  have h3 : (l ++ [i]).getD l.length 0 = i := by
    rw [List.getD_eq_getElem?_getD, List.getElem?_append_right (Nat.le_refl _)]
    simp
  unfold lateC sumC
  rw [List.length_append, List.length_cons, List.length_nil]
  show max (lateN A (l ++ [i]) l.length) (A l.length ((l ++ [i]).getD l.length 0)) = _ ∧ sumN A (l ++ [i]) l.length + A l.length ((l ++ [i]).getD l.length 0) = _
  rw [h1, h2, h3]
  exact ⟨rfl, rfl⟩
theorem ints_at0 {w : World} {v : Value} {n : Nat} {l : List Nat} {own : Option Nat} (h : Sl w 3 1 v n (intsC l) own) : ∃ ad b off cap, v = .slice ad n cap ∧ RwI w ad b off n (at0 l) := h.ints.2
theorem Sl.ne_blk {w : World} {v : Value} {n : Nat} {cs : List Value} {own : Option Nat} {b T : Nat} {cs' : List Value} (h : Sl w 3 1 v n cs own) (hb : Blk w b T cs') (hT : T ≠ 3) : ∀ x, own = some x → x ≠ b := fun x hx hxb => by
  rcases h.2 with ⟨_, _, e⟩ | ⟨b', off, cap, arr, _, e, hh, _⟩
  · rw [e] at hx; cases hx
  · rw [e] at hx
    cases hx
    subst hxb
    unfold Blk at hb
    rw [hb] at hh
    simp only [Option.some.injEq, Obj.cells.injEq] at hh
    exact hT hh.2.1
theorem Sl.oneV {w : World} {v : Value} {n E k : Nat} {cs : List Value} {own : Option Nat} (h : Sl w E k v n cs own) : v.oneCell' = true := by
  obtain ⟨a, c, rfl⟩ := h.form
  rfl
/-- What choose answers. -/
def ChRes (G : Nat) (r : SC) (V V' : World) (en : Ending) : Prop :=
  ∃ ov own, en = .returned (.agg (chC r ov).toArray) ∧ Sl V' 3 1 ov r.which.length (intsC r.which) own ∧ (r.found = true → r.which.length = G) ∧ Frm V.heap.size [] V V'

set_option maxRecDepth 100000 in
set_option maxHeartbeats 40000000 in
theorem choose_any (ua : Option Addr) (ub uo N ucap : Nat) (U : Nat → UC) (sa : Option Addr) (sb so scap : Nat) (T : Nat → Int) (ga : Option Addr) (gb go_ G gcap : Nat) (Q : Nat → Int × Int) (ok : TeamOK N U T G Q) :
    ∀ (d : Nat) (l : List Nat) (V : World) (best : SC) (lv bv : Value) (own own2 : Option Nat), l.length + d = G → (∀ k, k < l.length → l.getD k 0 < N) → TeamW V ua ub uo N U sa sb so N T ga gb go_ G Q →
      Sl V 3 1 lv l.length (intsC l) own → Sl V 3 1 bv best.which.length (intsC best.which) own2 → (best.found = true → best.which.length = G) →
      Calls Tryd.prog 85 #[.slice ua N ucap, .slice sa N scap, .slice ga G gcap, .agg (chC ⟨l, lateC (arrA U T Q) l, sumC (arrA U T Q) l, false⟩ lv).toArray, .agg (chC best bv).toArray] V fun en V' =>
        ChRes G ((ext N d l).foldl (stepR (arrA U T Q)) best) V V' en := by
  have hf0 := Tryd.func85
  intro d
  induction d with
  | zero =>
    intro l V best lv bv own own2 hl hlt tw hsl hsb hbf
    obtain rfl : G = l.length := by omega
    obtain ⟨la, lb, lo, lcap, rfl, hrl⟩ := ints_at0 hsl
    obtain ⟨ba, bb, bo, bcap, rfl, hrb⟩ := ints_at0 hsb
    obtain ⟨lt, hlt0⟩ : ∃ x, x = lateC (arrA U T Q) l := ⟨_, rfl⟩
    obtain ⟨sm, hsm0⟩ : ∃ x, x = sumC (arrA U T Q) l := ⟨_, rfl⟩
    have hst : (ext N 0 l).foldl (stepR (arrA U T Q)) best = if betterB ⟨l, lt, sm, true⟩ best = true then ⟨l, lt, sm, true⟩ else best := by rw [hlt0, hsm0]; rfl
    obtain ⟨r, hr⟩ : ∃ r, r = if betterB ⟨l, lt, sm, true⟩ best = true then ⟨l, lt, sm, true⟩ else best := ⟨_, rfl⟩
    rw [hst, ← hr, ← hlt0, ← hsm0]
    have HR := Lib.hid hr
    clear hr
    obtain ⟨c, hcc⟩ : ∃ c, c = V.heap.size := ⟨_, rfl⟩
    clear hlt tw ok hl hst hlt0 hsm0
    have HRL := Lib.hid hrl
    have HRB := Lib.hid hrb
    have HSL := Lib.hid hsl
    have HSB := Lib.hid hsb
    have HBF := Lib.hid hbf
    clear hbf hsb hsl hrb hrl
    go_enter Tryd.func85, Tryd.ntmps85
    go_upto_region 1 with fail
    refine namedC ?_; intro W hW
    have b0 : Blk W c 128 (chC ⟨l, lt, sm, false⟩ (.slice la l.length lcap)) := by rw [hW, hcc]; exact ((Blk.new V 128 (chC ⟨l, lt, sm, false⟩ (.slice la l.length lcap))).alloc _).alloc _
    have b1 : Blk W (c + 1) 128 (chC best (.slice ba best.which.length bcap)) := by rw [hW, hcc]; exact (Blk.new' _ 128 (chC best (.slice ba best.which.length bcap)) (by simp)).alloc _
    have b2 : Blk W (c + 2) 128 [.int .i64 0, .int .i64 0, .slice none 0 0, .bool false] := by rw [hW, hcc]; exact Blk.new' _ 128 [.int .i64 0, .int .i64 0, .slice none 0 0, .bool false] (by simp)
    have hf : Frm V.heap.size [] V W := by rw [hW]; repeat (first | with_reducible exact Frm.refl _ _ _ | with_reducible refine Frm.drewN ?_ | with_reducible refine Frm.drew ?_ | ((with_reducible refine Frm.setCell' ?_ ?_); · first | (left; simp; done) | (right; simp; done) | (right; simp; omega)) | ((with_reducible refine Frm.alloc' ?_ ?_); · first | exact Nat.le_refl _ | (simp; done) | (simp; omega)))
    clear hW
    rw [← hcc]
    rw [show c + 1 + 1 = c + 2 from rfl]
    have k2 : W.cell? ⟨c, 2, none⟩ = some (.slice la l.length lcap) := b0.cell 2
    have k3 : W.cell? ⟨c, 3, none⟩ = some (.bool false) := b0.cell 3
    have f3 := b0.free 3
    have B0 := Lib.hid b0
    have B1 := Lib.hid b1
    have B2 := Lib.hid b2
    have HF := Lib.hid hf
    have HCC := Lib.hid hcc
    clear hcc hf b2 b1 b0
    go_upto_region 4 with fail
    have b0 : Blk (W.setCell ⟨c, 3, none⟩ (.bool true)) c 128 (chC ⟨l, lt, sm, true⟩ (.slice la l.length lcap)) := B0.out.set 3 (.bool true)
    have b1 := B1.out.other ⟨c, 3, none⟩ (by simp) (.bool true)
    have b2 := B2.out.other ⟨c, 3, none⟩ (by simp) (.bool true)
    have hf := HF.out.setCell (p := ⟨c, 3, none⟩) (.inr (by have := HCC.out; simp; omega)) (.bool true)
    generalize W.setCell ⟨c, 3, none⟩ (.bool true) = X at b0 b1 b2 hf ⊢
    clear k2 k3 f3 B0 B1 B2 HF
    have hlo0 := loadVarB b0 (P := Tryd.prog) Tryd.underlying128 rfl info128
    have hlo1 := loadVarB b1 (P := Tryd.prog) Tryd.underlying128 rfl info128
    have B0 := Lib.hid b0
    have B1 := Lib.hid b1
    have B2 := Lib.hid b2
    have HF := Lib.hid hf
    have HLO0 := Lib.hid hlo0
    have HLO1 := Lib.hid hlo1
    clear hlo1 hlo0 hf b2 b1 b0
    go_wp2_with (with_reducible refine atLoad 128 rfl ?_; first | refine wpList_loadE rfl rfl rfl HLO0.out ?_ | refine wpList_loadE rfl rfl rfl HLO1.out ?_)
    refine (better_any ⟨l, lt, sm, true⟩ best la lb lo l.length lcap ba bb bo best.which.length bcap X (HRL.out.frm HF.out (Nat.le_refl _)) (HRB.out.frm HF.out (Nat.le_refl _)) rfl HBF.out).mono ?_
    rintro en X2 ⟨rfl, hf1⟩
    have b0 := hf1.blk B0.out B0.out.lt (by simp)
    have b1 := hf1.blk B1.out B1.out.lt (by simp)
    have b2 := hf1.blk B2.out B2.out.lt (by simp)
    have hf := HF.out.call hf1 HF.out.size (by simp)
    clear hf1 B0 B1 B2 HF HLO0 HLO1
    have hlo0 := loadVarB b0 (P := Tryd.prog) Tryd.underlying128 rfl info128
    have hlo1 := loadVarB b1 (P := Tryd.prog) Tryd.underlying128 rfl info128
    have B0 := Lib.hid b0
    have B1 := Lib.hid b1
    have B2 := Lib.hid b2
    have HF := Lib.hid hf
    have HLO0 := Lib.hid hlo0
    have HLO1 := Lib.hid hlo1
    clear hlo1 hlo0 hf b2 b1 b0
    cases hb : betterB ⟨l, lt, sm, true⟩ best
    · have HBB := Lib.hid hb
      clear hb
      go_wp2_with (first | (with_reducible refine atLoad 128 rfl ?_; refine wpList_loadE rfl rfl rfl HLO1.out ?_) | (with_reducible refine atStore 128 rfl ?_; refine stop_ ?_))
      refine go_on ?_
      refine wpList_storeB (P := Tryd.prog) (ty := 128) (cs := chC best (.slice ba best.which.length bcap)) rfl rfl B2.out rfl rfl rfl info128 (by simp [chC, Value.oneCell']) ?_
      have hfin := HF.out.setRow (g := c + 2) (.inr (by have := HCC.out; omega)) (chC best (.slice ba best.which.length bcap)).toArray
      have hb2 := B2.out.row (chC best (.slice ba best.which.length bcap))
      have HFIN := Lib.hid hfin
      have HB2 := Lib.hid hb2
      clear hb2 hfin
      go_wp2_with fail
      refine bodyPost_ret (results_c Tryd.results85 HB2.out rfl Tryd.underlying128 rfl info128) rfl ?_
      have hr : r = best := by rw [HR.out, if_neg (by rw [HBB.out]; simp)]
      subst hr
      exact ⟨_, _, rfl, HSB.out.frm HFIN.out (fun b hb => HSB.out.lt b hb) (by simp), HBF.out, HFIN.out⟩
    · have HBB := Lib.hid hb
      clear hb
      go_wp2_with (first | (with_reducible refine atLoad 128 rfl ?_; refine wpList_loadE rfl rfl rfl HLO0.out ?_) | (with_reducible refine atStore 128 rfl ?_; refine stop_ ?_))
      refine go_on ?_
      refine wpList_storeB (P := Tryd.prog) (ty := 128) (cs := chC ⟨l, lt, sm, true⟩ (.slice la l.length lcap)) rfl rfl B2.out rfl rfl rfl info128 (by simp [chC, Value.oneCell']) ?_
      have hfin := HF.out.setRow (g := c + 2) (.inr (by have := HCC.out; omega)) (chC ⟨l, lt, sm, true⟩ (.slice la l.length lcap)).toArray
      have hb2 := B2.out.row (chC ⟨l, lt, sm, true⟩ (.slice la l.length lcap))
      have HFIN := Lib.hid hfin
      have HB2 := Lib.hid hb2
      clear hb2 hfin
      go_wp2_with fail
      refine bodyPost_ret (results_c Tryd.results85 HB2.out rfl Tryd.underlying128 rfl info128) rfl ?_
      have hr : r = ⟨l, lt, sm, true⟩ := by rw [HR.out, if_pos HBB.out]
      subst hr
      exact ⟨_, _, rfl, HSL.out.frm HFIN.out (fun b hb => HSL.out.lt b hb) (by simp), fun _ => rfl, HFIN.out⟩
  | succ d ih =>
    intro l V best lv bv own own2 hl hlt tw hsl hsb hbf
    obtain ⟨la, lb, lo, lcap, rfl, hrl⟩ := ints_at0 hsl
    obtain ⟨ba, bb, bo, bcap, rfl, hrb⟩ := ints_at0 hsb
    obtain ⟨A, hA⟩ : ∃ A, A = arrA U T Q := ⟨_, rfl⟩
    have hlow := ok.low hlt (by omega) l.length (Nat.le_refl _)
    have hG6 : G ≤ 6 ∧ N ≤ 6 := by have := ok.n6; have := ok.gn; omega
    rw [← hA] at hlow ih ⊢
    obtain ⟨lt, hlt0⟩ : ∃ x, x = lateC A l := ⟨_, rfl⟩
    obtain ⟨sm, hsm0⟩ : ∃ x, x = sumC A l := ⟨_, rfl⟩
    have hlow2 : (0 ≤ lt ∧ lt ≤ 300000000000) ∧ 0 ≤ sm ∧ sm ≤ 3000000000000 := by
      rw [hlt0, hsm0]
      unfold lateC sumC
      refine ⟨hlow.1, hlow.2.1, Int.le_trans hlow.2.2 ?_⟩
      omega
    rw [← hlt0, ← hsm0]
    obtain ⟨c, hcc⟩ : ∃ c, c = V.heap.size := ⟨_, rfl⟩
    have hne : ((l.length : Int) == (G : Int)) = false := by simp; omega
    have hne2 : ¬ (l.length : Int) = (G : Int) := by omega
    have hlG : (l.length : Int) < (G : Int) := by omega
    have hlGn : l.length < G := by omega
    clear hlow
    have HRL := Lib.hid hrl
    have HRB := Lib.hid hrb
    have HSL := Lib.hid hsl
    have HSB := Lib.hid hsb
    have HBF := Lib.hid hbf
    have HTW := Lib.hid tw
    have HOK := Lib.hid ok
    have IH := Lib.hid ih
    have HA := Lib.hid hA
    have HG6 := Lib.hid hG6
    have HLOW := Lib.hid hlow2
    have HLT0 := Lib.hid hlt0
    have HSM0 := Lib.hid hsm0
    have HLTT := Lib.hid hlt
    have HL := Lib.hid hl
    have HLG := Lib.hid hlG
    have HLGN := Lib.hid hlGn
    clear hlGn hlG hl hlt hsm0 hlt0 hlow2 hG6 hA ih ok tw hbf hsb hsl hrb hrl
    go_enter Tryd.func85, Tryd.ntmps85
    go_upto_region 1 with fail
    refine namedC ?_; intro W hW
    have b0 : Blk W c 128 (chC ⟨l, lt, sm, false⟩ (.slice la l.length lcap)) := by rw [hW, hcc]; exact ((Blk.new V 128 (chC ⟨l, lt, sm, false⟩ (.slice la l.length lcap))).alloc _).alloc _
    have b1 : Blk W (c + 1) 128 (chC best (.slice ba best.which.length bcap)) := by rw [hW, hcc]; exact (Blk.new' _ 128 (chC best (.slice ba best.which.length bcap)) (by simp)).alloc _
    have b2 : Blk W (c + 2) 128 [.int .i64 0, .int .i64 0, .slice none 0 0, .bool false] := by rw [hW, hcc]; exact Blk.new' _ 128 [.int .i64 0, .int .i64 0, .slice none 0 0, .bool false] (by simp)
    have hf : Frm V.heap.size [] V W := by rw [hW]; repeat (first | with_reducible exact Frm.refl _ _ _ | with_reducible refine Frm.drewN ?_ | with_reducible refine Frm.drew ?_ | ((with_reducible refine Frm.setCell' ?_ ?_); · first | (left; simp; done) | (right; simp; done) | (right; simp; omega)) | ((with_reducible refine Frm.alloc' ?_ ?_); · first | exact Nat.le_refl _ | (simp; done) | (simp; omega)))
    clear hW
    rw [← hcc]
    rw [show c + 1 + 1 = c + 2 from rfl]
    have k2 : W.cell? ⟨c, 2, none⟩ = some (.slice la l.length lcap) := b0.cell 2
    have B0 := Lib.hid b0
    have B1 := Lib.hid b1
    have B2 := Lib.hid b2
    have HF := Lib.hid hf
    have HCC := Lib.hid hcc
    clear hcc hf b2 b1 b0
    go_wp2_with fail
    go_loopw [12] (fun s12 wr => ∃ (k : Nat) (bk : SC) (bv : Value) (ow : Option Nat), s12 = .int .i64 k ∧ k ≤ N ∧ bk = (extK N d l k).foldl (stepR A) best ∧ Blk wr c 128 (chC ⟨l, lt, sm, false⟩ (.slice la l.length lcap)) ∧ Blk wr (c + 1) 128 (chC bk bv) ∧ Blk wr (c + 2) 128 [.int .i64 0, .int .i64 0, .slice none 0 0, .bool false] ∧ Sl wr 3 1 bv bk.which.length (intsC bk.which) ow ∧ (bk.found = true → bk.which.length = G) ∧ Frm V.heap.size [] V wr) (fun s12 _ => N - (intOf s12).toNat)
    case atStart => exact ⟨0, best, _, own2, rfl, Nat.zero_le _, rfl, B0.out, B1.out, B2.out, HSB.out.frm HF.out (fun b hb => HSB.out.lt b hb) (by simp), HBF.out, HF.out⟩
    case round =>
      clear k2 B0 B1 B2 HF hne hne2
      obtain ⟨k, bk, bvk, owk, rfl, hk, hbk, b0, b1, b2, hsk, hfk, hfr⟩ := hrel
      by_cases hkl : k < N
      · have hkl' : (k : Int) < (N : Int) := by omega
        have w4 : IntKind.i64.wrap ((k : Int) + 1) = (k : Int) + 1 := IntWalk.i64_in _ (by have := HG6.out; omega)
        have w5 : wrap64 ((k : Int) + 1) = (k : Int) + 1 := IntWalk.wrap64_in _ (by have := HG6.out; omega)
        have c2 : wr.cell? ⟨c, 2, none⟩ = some (.slice la l.length lcap) := b0.cell 2
        have hcon := hasB_list l k
        have hrw := HRL.out.frm hfr (Nat.le_refl _)
        have HBK := Lib.hid hbk
        have B0 := Lib.hid b0
        have B1 := Lib.hid b1
        have B2 := Lib.hid b2
        have HSK := Lib.hid hsk
        have HFK := Lib.hid hfk
        have HFR := Lib.hid hfr
        have HKL := Lib.hid hkl
        have HCON := Lib.hid hcon
        have HRW := Lib.hid hrw
        clear hrw hcon hkl hfr hfk hsk b2 b1 b0 hbk
        go_wp2_with fail
        refine (hasR_any la lb lo l.length lcap (at0 l) (k : Int) wr HRW.out).mono ?_; rintro en v1 ⟨rfl, hf1⟩
        rw [show hasB (at0 l) l.length (k : Int) = l.contains k from HCON.out]
        have b0 := hf1.blk B0.out B0.out.lt (by simp)
        have b1 := hf1.blk B1.out B1.out.lt (by simp)
        have b2 := hf1.blk B2.out B2.out.lt (by simp)
        have hsk := HSK.out.frm hf1 (fun b hb => HSK.out.lt b hb) (by simp)
        have hfr := HFR.out.call hf1 HFR.out.size (by simp)
        clear hf1 B0 B1 B2 HSK HFR HRW c2
        cases hc : l.contains k
        rotate_left
        · have hb2 : bk = (extK N d l (k + 1)).foldl (stepR A) best := by rw [extK_succ, hc]; simpa using HBK.out
          have HB2 := Lib.hid hb2
          have B0 := Lib.hid b0
          have B1 := Lib.hid b1
          have B2 := Lib.hid b2
          have HSK := Lib.hid hsk
          have HFR := Lib.hid hfr
          have HC := Lib.hid hc
          clear hc hfr hsk b2 b1 b0 hb2
          go_wp2_with fail
          (try simp only [w4, w5])
          exact ⟨⟨k + 1, bk, bvk, owk, by simp, HKL.out, HB2.out, B0.out, B1.out, B2.out, HSK.out, HFK.out, HFR.out⟩, meas_up HKL.out⟩
        have hua := HTW.out.u.ad (by omega)
        subst hua
        have hsa := HTW.out.s.ad (by omega)
        subst hsa
        have hga := HTW.out.g.ad (by have := HLGN.out; omega)
        subst hga
        obtain ⟨n, hn⟩ : ∃ n, n = l.length := ⟨_, rfl⟩
        obtain ⟨u, hu⟩ : ∃ u, u = U k := ⟨_, rfl⟩
        obtain ⟨t, ht⟩ : ∃ t, t = T k := ⟨_, rfl⟩
        obtain ⟨gx, hgx⟩ : ∃ x, x = (Q n).1 := ⟨_, rfl⟩
        obtain ⟨gy, hgy⟩ : ∃ x, x = (Q n).2 := ⟨_, rfl⟩
        have hnG : n < G := by rw [hn]; exact HLGN.out
        have huo : UOK u := by rw [hu]; exact HOK.out.u k HKL.out
        have hgp : placeB gx gy = true := by rw [hgx, hgy]; exact HOK.out.g n hnG
        obtain ⟨tk, htk⟩ : ∃ x, x = takesZ u.speed u.bx u.by_ gx gy := ⟨_, rfl⟩
        obtain ⟨ar, har⟩ : ∃ x, x = A n k := ⟨_, rfl⟩
        have har2 : t + tk = ar := by rw [har, HA.out, ht, htk, hu, hgx, hgy]; rfl
        have hab := HOK.out.arr hnG HKL.out
        rw [← HA.out, ← har] at hab
        have w1a : IntKind.i64.wrap (t + tk) = ar := by rw [har2]; exact IntWalk.i64_in _ (by omega)
        obtain ⟨mx, hmx⟩ : ∃ x, x = max lt ar := ⟨_, rfl⟩
        obtain ⟨sx, hsx⟩ : ∃ x, x = sm + ar := ⟨_, rfl⟩
        have hlo := HLOW.out
        have w2a : IntKind.i64.wrap (sm + ar) = sx := by rw [hsx]; exact IntWalk.i64_in _ (by omega)
        have emx : max lt ar = mx := hmx.symm
        have hln := lateC_snoc A l k
        rw [← hn, ← HLT0.out, ← HSM0.out, ← har, ← hmx, ← hsx] at hln
        have hfx : ∀ X, Frm v1.heap.size [] v1 X → X.cell? ⟨sb, so + k, none⟩ = some (.int .i64 t) ∧ X.cell? ⟨ub, uo + k * 12 + 8, none⟩ = some (.int .i64 u.bx) ∧ X.cell? ⟨ub, uo + k * 12 + 9, none⟩ = some (.int .i64 u.by_) ∧ X.cell? ⟨gb, go_ + l.length * 2, none⟩ = some (.int .i64 gx) ∧ X.cell? ⟨gb, go_ + l.length * 2 + 1, none⟩ = some (.int .i64 gy) := fun X hX => by
          have t0 := HTW.out.frm (hfr.call hX hfr.size (by simp)) (Nat.le_refl _)
          refine ⟨?_, ?_, ?_, ?_, ?_⟩
          · rw [ht]; exact t0.s.cellI HKL.out
          · rw [hu]; exact t0.u.at_ k HKL.out 8 _ rfl
          · rw [hu]; exact t0.u.at_ k HKL.out 9 _ rfl
          · rw [hgx, ← hn]; exact t0.g.at_ n hnG 0 _ rfl
          · rw [hgy, ← hn]; exact t0.g.at_ n hnG 1 _ rfl
        have hlu : ∀ X, Frm v1.heap.size [] v1 X → (loadVar 25 ⟨ub, uo + k * 12, none⟩).run Tryd.prog X = .ok (.agg u.cells.toArray) X := fun X hX => by
          rw [hu]
          exact (HTW.out.frm (hfr.call hX hfr.size (by simp)) (Nat.le_refl _)).u.load (P := Tryd.prog) Tryd.underlying25 rfl HKL.out (UC.info _)
        have hlG := HLG.out
        have hck := hc
        clear hab hlo har2 hmx hsx har
        have HU := Lib.hid hu
        have HT := Lib.hid ht
        have HGX := Lib.hid hgx
        have HGY := Lib.hid hgy
        have HUO := Lib.hid huo
        have HGP := Lib.hid hgp
        have HTK := Lib.hid htk
        have HLN := Lib.hid hln
        have HFX := Lib.hid hfx
        have HLU := Lib.hid hlu
        have B0 := Lib.hid b0
        have B1 := Lib.hid b1
        have B2 := Lib.hid b2
        have HSK := Lib.hid hsk
        have HFR := Lib.hid hfr
        have HC := Lib.hid hc
        have HNG := Lib.hid hnG
        have HN := Lib.hid hn
        have HCK := Lib.hid hck
        clear hck hn hnG hc hfr hsk b2 b1 b0 hlu hfx hln htk hgp huo hgy hgx ht hu
        go_upto_region 11 with fail
        refine wp_region_leftL (fun V => Frm v1.heap.size [] v1 V) 1000 (by kernel_rfl) ?_
        have hS : Frm v1.heap.size [] v1 v1.drew := (Frm.refl _ _ v1).drew
        have HS := Lib.hid hS
        clear hS
        first | (refine LeftL.run (v := ?_) 0 rfl (by kernel_rfl) rfl (fun _ _ d _ _ h => by cases d <;> exact h) ?_ HS.out ?_; rotate_left; (· intro V hV; obtain ⟨q0, q1, q2, q3, q4⟩ := HFX.out V hV; clear hV; go_simp; rfl); (intro K' hK'; go_simp; refine hK' _ ?_; clear hK' K')) | (refine LeftL.runG (v := ?_) 0 rfl (by kernel_rfl) rfl (fun _ _ d _ _ h => by cases d <;> exact h) ?_ HS.out ?_; rotate_left; (· intro V hV; obtain ⟨q0, q1, q2, q3, q4⟩ := HFX.out V hV; clear hV; go_simp; rfl); (intro K' hK'; go_simp; refine hK' _ ?_; clear hK' K')) | (refine LeftL.take (v := undef) 0 rfl (by kernel_rfl) (fun _ _ d _ _ h => by cases d <;> exact h) (.inr ⟨rfl, rfl⟩) HS.out ?_; (intro K' hK'; go_simp; refine hK' _ ?_; clear hK' K'))
        first | (refine LeftL.run (v := ?_) 1 rfl (by kernel_rfl) rfl (fun _ _ d _ _ h => by cases d <;> exact h) ?_ HS.out ?_; rotate_left; (· intro V hV; obtain ⟨q0, q1, q2, q3, q4⟩ := HFX.out V hV; clear hV; go_simp; rfl); (intro K' hK'; go_simp; refine hK' _ ?_; clear hK' K')) | (refine LeftL.runG (v := ?_) 1 rfl (by kernel_rfl) rfl (fun _ _ d _ _ h => by cases d <;> exact h) ?_ HS.out ?_; rotate_left; (· intro V hV; obtain ⟨q0, q1, q2, q3, q4⟩ := HFX.out V hV; clear hV; go_simp; rfl); (intro K' hK'; go_simp; refine hK' _ ?_; clear hK' K')) | (refine LeftL.take (v := undef) 1 rfl (by kernel_rfl) (fun _ _ d _ _ h => by cases d <;> exact h) (.inr ⟨rfl, rfl⟩) HS.out ?_; (intro K' hK'; go_simp; refine hK' _ ?_; clear hK' K'))
        first | (refine LeftL.run (v := ?_) 2 rfl (by kernel_rfl) rfl (fun _ _ d _ _ h => by cases d <;> exact h) ?_ HS.out ?_; rotate_left; (· intro V hV; obtain ⟨q0, q1, q2, q3, q4⟩ := HFX.out V hV; clear hV; go_simp; rfl); (intro K' hK'; go_simp; refine hK' _ ?_; clear hK' K')) | (refine LeftL.runG (v := ?_) 2 rfl (by kernel_rfl) rfl (fun _ _ d _ _ h => by cases d <;> exact h) ?_ HS.out ?_; rotate_left; (· intro V hV; obtain ⟨q0, q1, q2, q3, q4⟩ := HFX.out V hV; clear hV; go_simp; rfl); (intro K' hK'; go_simp; refine hK' _ ?_; clear hK' K')) | (refine LeftL.take (v := undef) 2 rfl (by kernel_rfl) (fun _ _ d _ _ h => by cases d <;> exact h) (.inr ⟨rfl, rfl⟩) HS.out ?_; (intro K' hK'; go_simp; refine hK' _ ?_; clear hK' K'))
        first | (refine LeftL.run (v := ?_) 3 rfl (by kernel_rfl) rfl (fun _ _ d _ _ h => by cases d <;> exact h) ?_ HS.out ?_; rotate_left; (· intro V hV; obtain ⟨q0, q1, q2, q3, q4⟩ := HFX.out V hV; clear hV; go_simp; rfl); (intro K' hK'; go_simp; refine hK' _ ?_; clear hK' K')) | (refine LeftL.runG (v := ?_) 3 rfl (by kernel_rfl) rfl (fun _ _ d _ _ h => by cases d <;> exact h) ?_ HS.out ?_; rotate_left; (· intro V hV; obtain ⟨q0, q1, q2, q3, q4⟩ := HFX.out V hV; clear hV; go_simp; rfl); (intro K' hK'; go_simp; refine hK' _ ?_; clear hK' K')) | (refine LeftL.take (v := undef) 3 rfl (by kernel_rfl) (fun _ _ d _ _ h => by cases d <;> exact h) (.inr ⟨rfl, rfl⟩) HS.out ?_; (intro K' hK'; go_simp; refine hK' _ ?_; clear hK' K'))
        first | (refine LeftL.run (v := ?_) 4 rfl (by kernel_rfl) rfl (fun _ _ d _ _ h => by cases d <;> exact h) ?_ HS.out ?_; rotate_left; (· intro V hV; obtain ⟨q0, q1, q2, q3, q4⟩ := HFX.out V hV; clear hV; go_simp; rfl); (intro K' hK'; go_simp; refine hK' _ ?_; clear hK' K')) | (refine LeftL.runG (v := ?_) 4 rfl (by kernel_rfl) rfl (fun _ _ d _ _ h => by cases d <;> exact h) ?_ HS.out ?_; rotate_left; (· intro V hV; obtain ⟨q0, q1, q2, q3, q4⟩ := HFX.out V hV; clear hV; go_simp; rfl); (intro K' hK'; go_simp; refine hK' _ ?_; clear hK' K')) | (refine LeftL.take (v := undef) 4 rfl (by kernel_rfl) (fun _ _ d _ _ h => by cases d <;> exact h) (.inr ⟨rfl, rfl⟩) HS.out ?_; (intro K' hK'; go_simp; refine hK' _ ?_; clear hK' K'))
        first | (refine LeftL.run (v := ?_) 5 rfl (by kernel_rfl) rfl (fun _ _ d _ _ h => by cases d <;> exact h) ?_ HS.out ?_; rotate_left; (· intro V hV; obtain ⟨q0, q1, q2, q3, q4⟩ := HFX.out V hV; clear hV; go_simp; rfl); (intro K' hK'; go_simp; refine hK' _ ?_; clear hK' K')) | (refine LeftL.runG (v := ?_) 5 rfl (by kernel_rfl) rfl (fun _ _ d _ _ h => by cases d <;> exact h) ?_ HS.out ?_; rotate_left; (· intro V hV; obtain ⟨q0, q1, q2, q3, q4⟩ := HFX.out V hV; clear hV; go_simp; rfl); (intro K' hK'; go_simp; refine hK' _ ?_; clear hK' K')) | (refine LeftL.take (v := undef) 5 rfl (by kernel_rfl) (fun _ _ d _ _ h => by cases d <;> exact h) (.inr ⟨rfl, rfl⟩) HS.out ?_; (intro K' hK'; go_simp; refine hK' _ ?_; clear hK' K'))
        first | (refine LeftL.run (v := ?_) 6 rfl (by kernel_rfl) rfl (fun _ _ d _ _ h => by cases d <;> exact h) ?_ HS.out ?_; rotate_left; (· intro V hV; obtain ⟨q0, q1, q2, q3, q4⟩ := HFX.out V hV; clear hV; go_simp; rfl); (intro K' hK'; go_simp; refine hK' _ ?_; clear hK' K')) | (refine LeftL.runG (v := ?_) 6 rfl (by kernel_rfl) rfl (fun _ _ d _ _ h => by cases d <;> exact h) ?_ HS.out ?_; rotate_left; (· intro V hV; obtain ⟨q0, q1, q2, q3, q4⟩ := HFX.out V hV; clear hV; go_simp; rfl); (intro K' hK'; go_simp; refine hK' _ ?_; clear hK' K')) | (refine LeftL.take (v := undef) 6 rfl (by kernel_rfl) (fun _ _ d _ _ h => by cases d <;> exact h) (.inr ⟨rfl, rfl⟩) HS.out ?_; (intro K' hK'; go_simp; refine hK' _ ?_; clear hK' K'))
        refine LeftL.take 7 rfl (by kernel_rfl) (fun _ _ d _ _ h => by cases d <;> exact h) (yields_loadE (ty := 25) rfl rfl rfl (HLU.out)) HS.out ?_; (intro K' hK'; go_simp; refine hK' _ ?_; clear hK' K')
        first | (refine LeftL.run (v := ?_) 8 rfl (by kernel_rfl) rfl (fun _ _ d _ _ h => by cases d <;> exact h) ?_ HS.out ?_; rotate_left; (· intro V hV; obtain ⟨q0, q1, q2, q3, q4⟩ := HFX.out V hV; clear hV; go_simp; rfl); (intro K' hK'; go_simp; refine hK' _ ?_; clear hK' K')) | (refine LeftL.runG (v := ?_) 8 rfl (by kernel_rfl) rfl (fun _ _ d _ _ h => by cases d <;> exact h) ?_ HS.out ?_; rotate_left; (· intro V hV; obtain ⟨q0, q1, q2, q3, q4⟩ := HFX.out V hV; clear hV; go_simp; rfl); (intro K' hK'; go_simp; refine hK' _ ?_; clear hK' K')) | (refine LeftL.take (v := undef) 8 rfl (by kernel_rfl) (fun _ _ d _ _ h => by cases d <;> exact h) (.inr ⟨rfl, rfl⟩) HS.out ?_; (intro K' hK'; go_simp; refine hK' _ ?_; clear hK' K'))
        first | (refine LeftL.run (v := ?_) 9 rfl (by kernel_rfl) rfl (fun _ _ d _ _ h => by cases d <;> exact h) ?_ HS.out ?_; rotate_left; (· intro V hV; obtain ⟨q0, q1, q2, q3, q4⟩ := HFX.out V hV; clear hV; go_simp; rfl); (intro K' hK'; go_simp; refine hK' _ ?_; clear hK' K')) | (refine LeftL.runG (v := ?_) 9 rfl (by kernel_rfl) rfl (fun _ _ d _ _ h => by cases d <;> exact h) ?_ HS.out ?_; rotate_left; (· intro V hV; obtain ⟨q0, q1, q2, q3, q4⟩ := HFX.out V hV; clear hV; go_simp; rfl); (intro K' hK'; go_simp; refine hK' _ ?_; clear hK' K')) | (refine LeftL.take (v := undef) 9 rfl (by kernel_rfl) (fun _ _ d _ _ h => by cases d <;> exact h) (.inr ⟨rfl, rfl⟩) HS.out ?_; (intro K' hK'; go_simp; refine hK' _ ?_; clear hK' K'))
        first | (refine LeftL.run (v := ?_) 10 rfl (by kernel_rfl) rfl (fun _ _ d _ _ h => by cases d <;> exact h) ?_ HS.out ?_; rotate_left; (· intro V hV; obtain ⟨q0, q1, q2, q3, q4⟩ := HFX.out V hV; clear hV; go_simp; rfl); (intro K' hK'; go_simp; refine hK' _ ?_; clear hK' K')) | (refine LeftL.runG (v := ?_) 10 rfl (by kernel_rfl) rfl (fun _ _ d _ _ h => by cases d <;> exact h) ?_ HS.out ?_; rotate_left; (· intro V hV; obtain ⟨q0, q1, q2, q3, q4⟩ := HFX.out V hV; clear hV; go_simp; rfl); (intro K' hK'; go_simp; refine hK' _ ?_; clear hK' K')) | (refine LeftL.take (v := undef) 10 rfl (by kernel_rfl) (fun _ _ d _ _ h => by cases d <;> exact h) (.inr ⟨rfl, rfl⟩) HS.out ?_; (intro K' hK'; go_simp; refine hK' _ ?_; clear hK' K'))
        first | (refine LeftL.run (v := ?_) 11 rfl (by kernel_rfl) rfl (fun _ _ d _ _ h => by cases d <;> exact h) ?_ HS.out ?_; rotate_left; (· intro V hV; obtain ⟨q0, q1, q2, q3, q4⟩ := HFX.out V hV; clear hV; go_simp; rfl); (intro K' hK'; go_simp; refine hK' _ ?_; clear hK' K')) | (refine LeftL.runG (v := ?_) 11 rfl (by kernel_rfl) rfl (fun _ _ d _ _ h => by cases d <;> exact h) ?_ HS.out ?_; rotate_left; (· intro V hV; obtain ⟨q0, q1, q2, q3, q4⟩ := HFX.out V hV; clear hV; go_simp; rfl); (intro K' hK'; go_simp; refine hK' _ ?_; clear hK' K')) | (refine LeftL.take (v := undef) 11 rfl (by kernel_rfl) (fun _ _ d _ _ h => by cases d <;> exact h) (.inr ⟨rfl, rfl⟩) HS.out ?_; (intro K' hK'; go_simp; refine hK' _ ?_; clear hK' K'))
        first | (refine LeftL.run (v := ?_) 12 rfl (by kernel_rfl) rfl (fun _ _ d _ _ h => by cases d <;> exact h) ?_ HS.out ?_; rotate_left; (· intro V hV; obtain ⟨q0, q1, q2, q3, q4⟩ := HFX.out V hV; clear hV; go_simp; rfl); (intro K' hK'; go_simp; refine hK' _ ?_; clear hK' K')) | (refine LeftL.runG (v := ?_) 12 rfl (by kernel_rfl) rfl (fun _ _ d _ _ h => by cases d <;> exact h) ?_ HS.out ?_; rotate_left; (· intro V hV; obtain ⟨q0, q1, q2, q3, q4⟩ := HFX.out V hV; clear hV; go_simp; rfl); (intro K' hK'; go_simp; refine hK' _ ?_; clear hK' K')) | (refine LeftL.take (v := undef) 12 rfl (by kernel_rfl) (fun _ _ d _ _ h => by cases d <;> exact h) (.inr ⟨rfl, rfl⟩) HS.out ?_; (intro K' hK'; go_simp; refine hK' _ ?_; clear hK' K'))
        first | (refine LeftL.run (v := ?_) 13 rfl (by kernel_rfl) rfl (fun _ _ d _ _ h => by cases d <;> exact h) ?_ HS.out ?_; rotate_left; (· intro V hV; obtain ⟨q0, q1, q2, q3, q4⟩ := HFX.out V hV; clear hV; go_simp; rfl); (intro K' hK'; go_simp; refine hK' _ ?_; clear hK' K')) | (refine LeftL.runG (v := ?_) 13 rfl (by kernel_rfl) rfl (fun _ _ d _ _ h => by cases d <;> exact h) ?_ HS.out ?_; rotate_left; (· intro V hV; obtain ⟨q0, q1, q2, q3, q4⟩ := HFX.out V hV; clear hV; go_simp; rfl); (intro K' hK'; go_simp; refine hK' _ ?_; clear hK' K')) | (refine LeftL.take (v := undef) 13 rfl (by kernel_rfl) (fun _ _ d _ _ h => by cases d <;> exact h) (.inr ⟨rfl, rfl⟩) HS.out ?_; (intro K' hK'; go_simp; refine hK' _ ?_; clear hK' K'))
        first | (refine LeftL.run (v := ?_) 14 rfl (by kernel_rfl) rfl (fun _ _ d _ _ h => by cases d <;> exact h) ?_ HS.out ?_; rotate_left; (· intro V hV; obtain ⟨q0, q1, q2, q3, q4⟩ := HFX.out V hV; clear hV; go_simp; rfl); (intro K' hK'; go_simp; refine hK' _ ?_; clear hK' K')) | (refine LeftL.runG (v := ?_) 14 rfl (by kernel_rfl) rfl (fun _ _ d _ _ h => by cases d <;> exact h) ?_ HS.out ?_; rotate_left; (· intro V hV; obtain ⟨q0, q1, q2, q3, q4⟩ := HFX.out V hV; clear hV; go_simp; rfl); (intro K' hK'; go_simp; refine hK' _ ?_; clear hK' K')) | (refine LeftL.take (v := undef) 14 rfl (by kernel_rfl) (fun _ _ d _ _ h => by cases d <;> exact h) (.inr ⟨rfl, rfl⟩) HS.out ?_; (intro K' hK'; go_simp; refine hK' _ ?_; clear hK' K'))
        first | (refine LeftL.run (v := ?_) 15 rfl (by kernel_rfl) rfl (fun _ _ d _ _ h => by cases d <;> exact h) ?_ HS.out ?_; rotate_left; (· intro V hV; obtain ⟨q0, q1, q2, q3, q4⟩ := HFX.out V hV; clear hV; go_simp; rfl); (intro K' hK'; go_simp; refine hK' _ ?_; clear hK' K')) | (refine LeftL.runG (v := ?_) 15 rfl (by kernel_rfl) rfl (fun _ _ d _ _ h => by cases d <;> exact h) ?_ HS.out ?_; rotate_left; (· intro V hV; obtain ⟨q0, q1, q2, q3, q4⟩ := HFX.out V hV; clear hV; go_simp; rfl); (intro K' hK'; go_simp; refine hK' _ ?_; clear hK' K')) | (refine LeftL.take (v := undef) 15 rfl (by kernel_rfl) (fun _ _ d _ _ h => by cases d <;> exact h) (.inr ⟨rfl, rfl⟩) HS.out ?_; (intro K' hK'; go_simp; refine hK' _ ?_; clear hK' K'))
        first | (refine LeftL.run (v := ?_) 16 rfl (by kernel_rfl) rfl (fun _ _ d _ _ h => by cases d <;> exact h) ?_ HS.out ?_; rotate_left; (· intro V hV; obtain ⟨q0, q1, q2, q3, q4⟩ := HFX.out V hV; clear hV; go_simp; rfl); (intro K' hK'; go_simp; refine hK' _ ?_; clear hK' K')) | (refine LeftL.runG (v := ?_) 16 rfl (by kernel_rfl) rfl (fun _ _ d _ _ h => by cases d <;> exact h) ?_ HS.out ?_; rotate_left; (· intro V hV; obtain ⟨q0, q1, q2, q3, q4⟩ := HFX.out V hV; clear hV; go_simp; rfl); (intro K' hK'; go_simp; refine hK' _ ?_; clear hK' K')) | (refine LeftL.take (v := undef) 16 rfl (by kernel_rfl) (fun _ _ d _ _ h => by cases d <;> exact h) (.inr ⟨rfl, rfl⟩) HS.out ?_; (intro K' hK'; go_simp; refine hK' _ ?_; clear hK' K'))
        refine LeftL.one 17 rfl (by kernel_rfl) ?_
        go_wp2_with fail
        refine (refTakes_any u u.bx u.by_ gx gy _ HUO.out.speed HUO.out.base HGP.out).mono ?_; rintro e w1 ⟨rfl, hf1⟩
        have hS1 := HS.out.call hf1 HS.out.size (by simp)
        clear hf1 HS
        have HS := Lib.hid hS1
        clear hS1
        rw [← HTK.out]
        go_wp2_with fail
        first | refine ⟨fun _ => HS.out, ?_⟩ | refine ⟨HS.out, ?_⟩
        first | (refine LeftL.run (v := ?_) 18 rfl (by kernel_rfl) rfl (fun _ _ d _ _ h => by cases d <;> exact h) ?_ HS.out ?_; rotate_left; (· intro V hV; obtain ⟨q0, q1, q2, q3, q4⟩ := HFX.out V hV; clear hV; go_simp; rfl); (intro K' hK'; go_simp; refine hK' _ ?_; clear hK' K')) | (refine LeftL.runG (v := ?_) 18 rfl (by kernel_rfl) rfl (fun _ _ d _ _ h => by cases d <;> exact h) ?_ HS.out ?_; rotate_left; (· intro V hV; obtain ⟨q0, q1, q2, q3, q4⟩ := HFX.out V hV; clear hV; go_simp; rfl); (intro K' hK'; go_simp; refine hK' _ ?_; clear hK' K')) | (refine LeftL.take (v := undef) 18 rfl (by kernel_rfl) (fun _ _ d _ _ h => by cases d <;> exact h) (.inr ⟨rfl, rfl⟩) HS.out ?_; (intro K' hK'; go_simp; refine hK' _ ?_; clear hK' K'))
        first | (refine LeftL.run (v := ?_) 19 rfl (by kernel_rfl) rfl (fun _ _ d _ _ h => by cases d <;> exact h) ?_ HS.out ?_; rotate_left; (· intro V hV; obtain ⟨q0, q1, q2, q3, q4⟩ := HFX.out V hV; clear hV; go_simp; rfl); (intro K' hK'; go_simp; refine hK' _ ?_; clear hK' K')) | (refine LeftL.runG (v := ?_) 19 rfl (by kernel_rfl) rfl (fun _ _ d _ _ h => by cases d <;> exact h) ?_ HS.out ?_; rotate_left; (· intro V hV; obtain ⟨q0, q1, q2, q3, q4⟩ := HFX.out V hV; clear hV; go_simp; rfl); (intro K' hK'; go_simp; refine hK' _ ?_; clear hK' K')) | (refine LeftL.take (v := undef) 19 rfl (by kernel_rfl) (fun _ _ d _ _ h => by cases d <;> exact h) (.inr ⟨rfl, rfl⟩) HS.out ?_; (intro K' hK'; go_simp; refine hK' _ ?_; clear hK' K'))
        refine LeftL.done (by kernel_rfl) ?_
        have b0 := HS.out.blk B0.out B0.out.lt (by simp)
        have b1 := HS.out.blk B1.out B1.out.lt (by simp)
        have b2 := HS.out.blk B2.out B2.out.lt (by simp)
        have hsk := HSK.out.frm HS.out (fun b hb => HSK.out.lt b hb) (by simp)
        have hfr := HFR.out.call HS.out HFR.out.size (by simp)
        have hslw := HSL.out.frm hfr (fun b hb => HSL.out.lt b hb) (by simp)
        have hfx : ∀ X, Frm w1.heap.size [] w1 X → X.cell? ⟨c, 0, none⟩ = some (.int .i64 lt) ∧ X.cell? ⟨c, 1, none⟩ = some (.int .i64 sm) ∧ X.cell? ⟨c, 2, none⟩ = some (.slice la l.length lcap) := fun X hX => by
          have h := hX.blk b0 b0.lt (by simp)
          exact ⟨h.cell 0, h.cell 1, h.cell 2⟩
        obtain ⟨i0, hi0, hz0', hz1, hz2⟩ := info_parts3 info3x
        have hl1000 : l.length ≤ 1000 := by have := HLGN.out; have := HG6.out; omega
        clear HFX HLU HS B0 B1 B2 HSK HFR w1a
        have HFX := Lib.hid hfx
        have B0 := Lib.hid b0
        have B1 := Lib.hid b1
        have B2 := Lib.hid b2
        have HSK := Lib.hid hsk
        have HFR := Lib.hid hfr
        have HSLW := Lib.hid hslw
        have HI0 := Lib.hid hi0
        have HZ0 := Lib.hid hz0'
        have HZ1 := Lib.hid hz1
        have HZ2 := Lib.hid hz2
        have HL1 := Lib.hid hl1000
        clear hl1000 hz2 hz1 hz0' hi0 hslw hfr hsk b2 b1 b0 hfx
        go_upto_region 12 with fail
        go_cut [14] from 57 to 72 (fun s14 w' => ∃ p ad14 cp14 own14, s14 = .pointer (some ⟨p, 0, none⟩) ∧ w1.heap.size ≤ p ∧ Blk w' p 128 [.int .i64 mx, .int .i64 sx, .slice ad14 (l.length + 1) cp14, .bool false] ∧ Sl w' 3 1 (.slice ad14 (l.length + 1) cp14) (l.length + 1) (intsC l ++ [.int .i64 (k : Int)]) own14 ∧ Frm w1.heap.size [] w1 w')
        case first =>
          refine wp_region_leftL (fun V => Frm w1.heap.size [] w1 V) 1000 (by kernel_rfl) ?_
          have hS : Frm w1.heap.size [] w1 w1.drew := (Frm.refl _ _ w1).drew
          have HS := Lib.hid hS
          clear hS
          generalize w1.drew = X0 at HS ⊢
          first | (refine LeftL.run (v := ?_) 0 rfl (by kernel_rfl) rfl (fun _ _ d _ _ h => by cases d <;> exact h) ?_ HS.out ?_; rotate_left; (· intro V hV; obtain ⟨q0, q1, q2⟩ := HFX.out V hV; clear hV; go_simp; rfl); (intro K' hK'; go_simp; refine hK' _ ?_; clear hK' K')) | (refine LeftL.runG (v := ?_) 0 rfl (by kernel_rfl) rfl (fun _ _ d _ _ h => by cases d <;> exact h) ?_ HS.out ?_; rotate_left; (· intro V hV; obtain ⟨q0, q1, q2⟩ := HFX.out V hV; clear hV; go_simp; rfl); (intro K' hK'; go_simp; refine hK' _ ?_; clear hK' K')) | (refine LeftL.take (v := undef) 0 rfl (by kernel_rfl) (fun _ _ d _ _ h => by cases d <;> exact h) (.inr ⟨rfl, rfl⟩) HS.out ?_; (intro K' hK'; go_simp; refine hK' _ ?_; clear hK' K'))
          first | (refine LeftL.run (v := ?_) 1 rfl (by kernel_rfl) rfl (fun _ _ d _ _ h => by cases d <;> exact h) ?_ HS.out ?_; rotate_left; (· intro V hV; obtain ⟨q0, q1, q2⟩ := HFX.out V hV; clear hV; go_simp; rfl); (intro K' hK'; go_simp; refine hK' _ ?_; clear hK' K')) | (refine LeftL.runG (v := ?_) 1 rfl (by kernel_rfl) rfl (fun _ _ d _ _ h => by cases d <;> exact h) ?_ HS.out ?_; rotate_left; (· intro V hV; obtain ⟨q0, q1, q2⟩ := HFX.out V hV; clear hV; go_simp; rfl); (intro K' hK'; go_simp; refine hK' _ ?_; clear hK' K')) | (refine LeftL.take (v := undef) 1 rfl (by kernel_rfl) (fun _ _ d _ _ h => by cases d <;> exact h) (.inr ⟨rfl, rfl⟩) HS.out ?_; (intro K' hK'; go_simp; refine hK' _ ?_; clear hK' K'))
          first | (refine LeftL.run (v := ?_) 2 rfl (by kernel_rfl) rfl (fun _ _ d _ _ h => by cases d <;> exact h) ?_ HS.out ?_; rotate_left; (· intro V hV; obtain ⟨q0, q1, q2⟩ := HFX.out V hV; clear hV; go_simp; rfl); (intro K' hK'; go_simp; refine hK' _ ?_; clear hK' K')) | (refine LeftL.runG (v := ?_) 2 rfl (by kernel_rfl) rfl (fun _ _ d _ _ h => by cases d <;> exact h) ?_ HS.out ?_; rotate_left; (· intro V hV; obtain ⟨q0, q1, q2⟩ := HFX.out V hV; clear hV; go_simp; rfl); (intro K' hK'; go_simp; refine hK' _ ?_; clear hK' K')) | (refine LeftL.take (v := undef) 2 rfl (by kernel_rfl) (fun _ _ d _ _ h => by cases d <;> exact h) (.inr ⟨rfl, rfl⟩) HS.out ?_; (intro K' hK'; go_simp; refine hK' _ ?_; clear hK' K'))
          first | (refine LeftL.run (v := ?_) 3 rfl (by kernel_rfl) rfl (fun _ _ d _ _ h => by cases d <;> exact h) ?_ HS.out ?_; rotate_left; (· intro V hV; obtain ⟨q0, q1, q2⟩ := HFX.out V hV; clear hV; go_simp; rfl); (intro K' hK'; go_simp; refine hK' _ ?_; clear hK' K')) | (refine LeftL.runG (v := ?_) 3 rfl (by kernel_rfl) rfl (fun _ _ d _ _ h => by cases d <;> exact h) ?_ HS.out ?_; rotate_left; (· intro V hV; obtain ⟨q0, q1, q2⟩ := HFX.out V hV; clear hV; go_simp; rfl); (intro K' hK'; go_simp; refine hK' _ ?_; clear hK' K')) | (refine LeftL.take (v := undef) 3 rfl (by kernel_rfl) (fun _ _ d _ _ h => by cases d <;> exact h) (.inr ⟨rfl, rfl⟩) HS.out ?_; (intro K' hK'; go_simp; refine hK' _ ?_; clear hK' K'))
          first | (refine LeftL.run (v := ?_) 4 rfl (by kernel_rfl) rfl (fun _ _ d _ _ h => by cases d <;> exact h) ?_ HS.out ?_; rotate_left; (· intro V hV; obtain ⟨q0, q1, q2⟩ := HFX.out V hV; clear hV; go_simp; rfl); (intro K' hK'; go_simp; refine hK' _ ?_; clear hK' K')) | (refine LeftL.runG (v := ?_) 4 rfl (by kernel_rfl) rfl (fun _ _ d _ _ h => by cases d <;> exact h) ?_ HS.out ?_; rotate_left; (· intro V hV; obtain ⟨q0, q1, q2⟩ := HFX.out V hV; clear hV; go_simp; rfl); (intro K' hK'; go_simp; refine hK' _ ?_; clear hK' K')) | (refine LeftL.take (v := undef) 4 rfl (by kernel_rfl) (fun _ _ d _ _ h => by cases d <;> exact h) (.inr ⟨rfl, rfl⟩) HS.out ?_; (intro K' hK'; go_simp; refine hK' _ ?_; clear hK' K'))
          first | (refine LeftL.run (v := ?_) 5 rfl (by kernel_rfl) rfl (fun _ _ d _ _ h => by cases d <;> exact h) ?_ HS.out ?_; rotate_left; (· intro V hV; obtain ⟨q0, q1, q2⟩ := HFX.out V hV; clear hV; go_simp; rfl); (intro K' hK'; go_simp; refine hK' _ ?_; clear hK' K')) | (refine LeftL.runG (v := ?_) 5 rfl (by kernel_rfl) rfl (fun _ _ d _ _ h => by cases d <;> exact h) ?_ HS.out ?_; rotate_left; (· intro V hV; obtain ⟨q0, q1, q2⟩ := HFX.out V hV; clear hV; go_simp; rfl); (intro K' hK'; go_simp; refine hK' _ ?_; clear hK' K')) | (refine LeftL.take (v := undef) 5 rfl (by kernel_rfl) (fun _ _ d _ _ h => by cases d <;> exact h) (.inr ⟨rfl, rfl⟩) HS.out ?_; (intro K' hK'; go_simp; refine hK' _ ?_; clear hK' K'))
          first | (refine LeftL.run (v := ?_) 6 rfl (by kernel_rfl) rfl (fun _ _ d _ _ h => by cases d <;> exact h) ?_ HS.out ?_; rotate_left; (· intro V hV; obtain ⟨q0, q1, q2⟩ := HFX.out V hV; clear hV; go_simp; rfl); (intro K' hK'; go_simp; refine hK' _ ?_; clear hK' K')) | (refine LeftL.runG (v := ?_) 6 rfl (by kernel_rfl) rfl (fun _ _ d _ _ h => by cases d <;> exact h) ?_ HS.out ?_; rotate_left; (· intro V hV; obtain ⟨q0, q1, q2⟩ := HFX.out V hV; clear hV; go_simp; rfl); (intro K' hK'; go_simp; refine hK' _ ?_; clear hK' K')) | (refine LeftL.take (v := undef) 6 rfl (by kernel_rfl) (fun _ _ d _ _ h => by cases d <;> exact h) (.inr ⟨rfl, rfl⟩) HS.out ?_; (intro K' hK'; go_simp; refine hK' _ ?_; clear hK' K'))
          first | (refine LeftL.run (v := ?_) 7 rfl (by kernel_rfl) rfl (fun _ _ d _ _ h => by cases d <;> exact h) ?_ HS.out ?_; rotate_left; (· intro V hV; obtain ⟨q0, q1, q2⟩ := HFX.out V hV; clear hV; go_simp; rfl); (intro K' hK'; go_simp; refine hK' _ ?_; clear hK' K')) | (refine LeftL.runG (v := ?_) 7 rfl (by kernel_rfl) rfl (fun _ _ d _ _ h => by cases d <;> exact h) ?_ HS.out ?_; rotate_left; (· intro V hV; obtain ⟨q0, q1, q2⟩ := HFX.out V hV; clear hV; go_simp; rfl); (intro K' hK'; go_simp; refine hK' _ ?_; clear hK' K')) | (refine LeftL.take (v := undef) 7 rfl (by kernel_rfl) (fun _ _ d _ _ h => by cases d <;> exact h) (.inr ⟨rfl, rfl⟩) HS.out ?_; (intro K' hK'; go_simp; refine hK' _ ?_; clear hK' K'))
          first | (refine LeftL.run (v := ?_) 9 rfl (by kernel_rfl) rfl (fun _ _ d _ _ h => by cases d <;> exact h) ?_ HS.out ?_; rotate_left; (· intro V hV; obtain ⟨q0, q1, q2⟩ := HFX.out V hV; clear hV; go_simp; rfl); (intro K' hK'; go_simp; refine hK' _ ?_; clear hK' K')) | (refine LeftL.runG (v := ?_) 9 rfl (by kernel_rfl) rfl (fun _ _ d _ _ h => by cases d <;> exact h) ?_ HS.out ?_; rotate_left; (· intro V hV; obtain ⟨q0, q1, q2⟩ := HFX.out V hV; clear hV; go_simp; rfl); (intro K' hK'; go_simp; refine hK' _ ?_; clear hK' K')) | (refine LeftL.take (v := undef) 9 rfl (by kernel_rfl) (fun _ _ d _ _ h => by cases d <;> exact h) (.inr ⟨rfl, rfl⟩) HS.out ?_; (intro K' hK'; go_simp; refine hK' _ ?_; clear hK' K'))
          first | (refine LeftL.run (v := ?_) 10 rfl (by kernel_rfl) rfl (fun _ _ d _ _ h => by cases d <;> exact h) ?_ HS.out ?_; rotate_left; (· intro V hV; obtain ⟨q0, q1, q2⟩ := HFX.out V hV; clear hV; go_simp; rfl); (intro K' hK'; go_simp; refine hK' _ ?_; clear hK' K')) | (refine LeftL.runG (v := ?_) 10 rfl (by kernel_rfl) rfl (fun _ _ d _ _ h => by cases d <;> exact h) ?_ HS.out ?_; rotate_left; (· intro V hV; obtain ⟨q0, q1, q2⟩ := HFX.out V hV; clear hV; go_simp; rfl); (intro K' hK'; go_simp; refine hK' _ ?_; clear hK' K')) | (refine LeftL.take (v := undef) 10 rfl (by kernel_rfl) (fun _ _ d _ _ h => by cases d <;> exact h) (.inr ⟨rfl, rfl⟩) HS.out ?_; (intro K' hK'; go_simp; refine hK' _ ?_; clear hK' K'))
          first | (refine LeftL.run (v := ?_) 12 rfl (by kernel_rfl) rfl (fun _ _ d _ _ h => by cases d <;> exact h) ?_ HS.out ?_; rotate_left; (· intro V hV; obtain ⟨q0, q1, q2⟩ := HFX.out V hV; clear hV; go_simp; rfl); (intro K' hK'; go_simp; refine hK' _ ?_; clear hK' K')) | (refine LeftL.runG (v := ?_) 12 rfl (by kernel_rfl) rfl (fun _ _ d _ _ h => by cases d <;> exact h) ?_ HS.out ?_; rotate_left; (· intro V hV; obtain ⟨q0, q1, q2⟩ := HFX.out V hV; clear hV; go_simp; rfl); (intro K' hK'; go_simp; refine hK' _ ?_; clear hK' K')) | (refine LeftL.take (v := undef) 12 rfl (by kernel_rfl) (fun _ _ d _ _ h => by cases d <;> exact h) (.inr ⟨rfl, rfl⟩) HS.out ?_; (intro K' hK'; go_simp; refine hK' _ ?_; clear hK' K'))
          refine LeftL.three 8 13 16 rfl rfl rfl (by kernel_rfl) ?_ ?_ ?_
          · go_wp2_with fail
            obtain ⟨b8, hb8⟩ : ∃ b, b = X0.heap.size := ⟨_, rfl⟩
            have e8 : Sl (X0.alloc (Obj.cells #[] 3)) 3 1 (.slice (some ⟨b8, 0, none⟩) 0 0) 0 [] (some b8) := by rw [hb8]; exact ⟨rfl, .inr ⟨X0.heap.size, 0, 0, _, rfl, rfl, heap_alloc_new X0 _, Nat.le_refl _, Nat.zero_le _, by simp, by simp⟩⟩
            have hs := HS.out.alloc HS.out.size (Obj.cells #[] 3)
            have hgeb8 : w1.heap.size ≤ b8 := by rw [hb8]; exact HS.out.size
            rw [← hb8]
            generalize X0.alloc (Obj.cells #[] 3) = X1 at hs e8 ⊢
            clear HS hb8
            have HS := Lib.hid hs
            have E8 := Lib.hid e8
            have Gb8 := Lib.hid hgeb8
            clear hgeb8 e8 hs
            first | refine ⟨fun _ => HS.out, ?_⟩ | refine ⟨HS.out, ?_⟩
            refine LeftL.three 11 13 16 rfl rfl rfl (by kernel_rfl) ?_ ?_ ?_
            · have HSX := Lib.hid HS.out.size
              refine wpList_append_both rfl (.tmp 65) (.tmp 67) 64 rfl 3 i0 _ 1 8 Tryd.underlying64 HI0.out HZ0.out HZ1.out HZ2.out rfl _ 0 [] _ rfl E8.out _ l.length (intsC l) _ rfl (HSLW.out.frm HS.out (fun b hb => HSLW.out.lt b hb) (by simp)) (intsC_one l) (by have := HL1.out; unfold maxLen; omega) (by have := HL1.out; omega) ?_
              intro v11 X2 own11 e11 hf ho
              rw [Nat.zero_add, List.nil_append] at e11
              obtain ⟨ad11, cp11, rfl⟩ := e11.form
              have hs := HS.out.call hf HS.out.size (fun x hx hm => by have := Gb8.out; simp at hm; omega)
              have o11 : ∀ b, own11 = some b → w1.heap.size ≤ b := fun b hb => by
                rcases ho with h | ⟨q, h, hq⟩
                · rw [h] at hb; cases hb; exact Gb8.out
                · rw [h] at hb; cases hb; exact Nat.le_trans HSX.out hq
              clear hf ho HS
              have HS := Lib.hid hs
              have E11 := Lib.hid e11
              have O11 := Lib.hid o11
              clear o11 e11 hs
              refine wpList_nil ?_
              refine ⟨fun _ => HS.out, ?_⟩
              refine LeftL.two 13 16 rfl rfl (by kernel_rfl) ?_ ?_
              · go_wp2_with fail
                obtain ⟨b13, hb13⟩ : ∃ b, b = X2.heap.size := ⟨_, rfl⟩
                have e13 : Sl (X2.alloc (Obj.cells #[Value.int .i64 (k : Int)] 3)) 3 1 (.slice (some ⟨b13, 0, none⟩) 1 1) 1 [.int .i64 (k : Int)] (some b13) := by rw [hb13]; exact ⟨rfl, .inr ⟨X2.heap.size, 0, 1, _, rfl, rfl, heap_alloc_new X2 _, Nat.le_refl _, by decide, by simp, by simp⟩⟩
                have hs := HS.out.alloc HS.out.size (Obj.cells #[Value.int .i64 (k : Int)] 3)
                have hgeb13 : w1.heap.size ≤ b13 := by rw [hb13]; exact HS.out.size
                have e11x := E11.out.alloc (Obj.cells #[Value.int .i64 (k : Int)] 3)
                have n1113 : ∀ b, own11 = some b → b ≠ b13 := fun b hb => by rw [hb13]; exact Nat.ne_of_lt (E11.out.lt b hb)
                rw [← hb13]
                generalize X2.alloc (Obj.cells #[Value.int .i64 (k : Int)] 3) = X3 at hs e13 e11x ⊢
                clear HS E11 hb13
                have HS := Lib.hid hs
                have E13 := Lib.hid e13
                have Gb13 := Lib.hid hgeb13
                have E11 := Lib.hid e11x
                have N1113 := Lib.hid n1113
                clear n1113 e11x hgeb13 e13 hs
                first | refine ⟨fun _ => HS.out, ?_⟩ | refine ⟨HS.out, ?_⟩
                refine LeftL.two 14 16 rfl rfl (by kernel_rfl) ?_ ?_
                · refine wpList_append_both rfl (.tmp 68) (.tmp 70) 64 rfl 3 i0 _ 1 8 Tryd.underlying64 HI0.out HZ0.out HZ1.out HZ2.out rfl _ l.length (intsC l) _ rfl E11.out _ 1 [.int .i64 (k : Int)] _ rfl E13.out (by simp [Value.oneCell']) (by have := HL1.out; unfold maxLen; omega) (by have := HL1.out; omega) ?_
                  intro v14 X4 own14 e14 hf ho
                  obtain ⟨ad14, cp14, rfl⟩ := e14.form
                  have hs := HS.out.call hf HS.out.size (fun x hx hm => by have := O11.out x (by simpa using hm); omega)
                  clear hf ho HS
                  have HS := Lib.hid hs
                  have E14 := Lib.hid e14
                  clear e14 hs
                  refine wpList_nil ?_
                  refine ⟨fun _ => HS.out, ?_⟩
                  first | (refine LeftL.run (v := ?_) 15 rfl (by kernel_rfl) rfl (fun _ _ d _ _ h => by cases d <;> exact h) ?_ HS.out ?_; rotate_left; (· intro V hV; obtain ⟨q0, q1, q2⟩ := HFX.out V hV; clear hV; go_simp; rfl); (intro K' hK'; go_simp; refine hK' _ ?_; clear hK' K')) | (refine LeftL.runG (v := ?_) 15 rfl (by kernel_rfl) rfl (fun _ _ d _ _ h => by cases d <;> exact h) ?_ HS.out ?_; rotate_left; (· intro V hV; obtain ⟨q0, q1, q2⟩ := HFX.out V hV; clear hV; go_simp; rfl); (intro K' hK'; go_simp; refine hK' _ ?_; clear hK' K')) | (refine LeftL.take (v := undef) 15 rfl (by kernel_rfl) (fun _ _ d _ _ h => by cases d <;> exact h) (.inr ⟨rfl, rfl⟩) HS.out ?_; (intro K' hK'; go_simp; refine hK' _ ?_; clear hK' K'))
                  refine LeftL.one 16 rfl (by kernel_rfl) ?_
                  go_wp2_with fail
                  obtain ⟨p16, hp16⟩ : ∃ b, b = X4.heap.size := ⟨_, rfl⟩
                  have e16 : Blk (X4.alloc (Obj.cells #[Value.int .i64 0, Value.int .i64 0, Value.slice none 0 0, Value.bool false] 128)) p16 128 [.int .i64 0, .int .i64 0, .slice none 0 0, .bool false] := by rw [hp16]; exact Blk.new X4 128 [.int .i64 0, .int .i64 0, .slice none 0 0, .bool false]
                  have hs := HS.out.alloc HS.out.size (Obj.cells #[Value.int .i64 0, Value.int .i64 0, Value.slice none 0 0, Value.bool false] 128)
                  have hgep16 : w1.heap.size ≤ p16 := by rw [hp16]; exact HS.out.size
                  have e14x := E14.out.alloc (Obj.cells #[Value.int .i64 0, Value.int .i64 0, Value.slice none 0 0, Value.bool false] 128)
                  have n14 : ∀ b, own14 = some b → b ≠ p16 := fun b hb => by rw [hp16]; exact Nat.ne_of_lt (E14.out.lt b hb)
                  rw [← hp16]
                  generalize X4.alloc (Obj.cells #[Value.int .i64 0, Value.int .i64 0, Value.slice none 0 0, Value.bool false] 128) = X5 at hs e16 e14x ⊢
                  clear HS E14 hp16
                  have HS := Lib.hid hs
                  have E16 := Lib.hid e16
                  have Gp16 := Lib.hid hgep16
                  have E14 := Lib.hid e14x
                  have N14 := Lib.hid n14
                  clear n14 e14x hgep16 e16 hs
                  first | refine ⟨fun _ => HS.out, ?_⟩ | refine ⟨HS.out, ?_⟩
                  refine LeftL.one 17 rfl (by kernel_rfl) ?_
                  refine wpList_storeB (P := Tryd.prog) (ty := 128) (cs := [.int .i64 mx, .int .i64 sx, .slice ad14 (l.length + 1) cp14, .bool false]) rfl rfl E16.out rfl rfl rfl info128 (by simp [Value.oneCell']) ?_
                  refine wpList_nil ?_
                  have hs := HS.out.setRow (g := p16) (.inr Gp16.out) #[.int .i64 mx, .int .i64 sx, .slice ad14 (l.length + 1) cp14, .bool false]
                  have e16y := E16.out.row [.int .i64 mx, .int .i64 sx, .slice ad14 (l.length + 1) cp14, .bool false]
                  have e14y := E14.out.kept (w' := X5.setRow p16 #[.int .i64 mx, .int .i64 sx, .slice ad14 (l.length + 1) cp14, .bool false]) (fun b hb => setRow_other _ _ _ _ (fun h => N14.out b hb h))
                  refine ⟨fun _ => hs, ?_⟩
                  refine LeftL.done (by kernel_rfl) ?_
                  simp only [Act.put]
                  go_wp2_with fail
                  go_meet
                  case rel => exact ⟨p16, ad14, cp14, own14, rfl, Gp16.out, e16y, e14y, hs⟩
                · go_wp2_with fail
                  obtain ⟨p16, hp16⟩ : ∃ b, b = X3.heap.size := ⟨_, rfl⟩
                  have e16 : Blk (X3.alloc (Obj.cells #[Value.int .i64 0, Value.int .i64 0, Value.slice none 0 0, Value.bool false] 128)) p16 128 [.int .i64 0, .int .i64 0, .slice none 0 0, .bool false] := by rw [hp16]; exact Blk.new X3 128 [.int .i64 0, .int .i64 0, .slice none 0 0, .bool false]
                  have hs := HS.out.alloc HS.out.size (Obj.cells #[Value.int .i64 0, Value.int .i64 0, Value.slice none 0 0, Value.bool false] 128)
                  have hgep16 : w1.heap.size ≤ p16 := by rw [hp16]; exact HS.out.size
                  have e13x := E13.out.alloc (Obj.cells #[Value.int .i64 0, Value.int .i64 0, Value.slice none 0 0, Value.bool false] 128)
                  have e11x := E11.out.alloc (Obj.cells #[Value.int .i64 0, Value.int .i64 0, Value.slice none 0 0, Value.bool false] 128)
                  have n1116 : ∀ b, own11 = some b → b ≠ p16 := fun b hb => by rw [hp16]; exact Nat.ne_of_lt (E11.out.lt b hb)
                  rw [← hp16]
                  generalize X3.alloc (Obj.cells #[Value.int .i64 0, Value.int .i64 0, Value.slice none 0 0, Value.bool false] 128) = X6 at hs e16 e13x e11x ⊢
                  clear HS E13 E11 hp16
                  have HS := Lib.hid hs
                  have E16 := Lib.hid e16
                  have Gp16 := Lib.hid hgep16
                  have E13 := Lib.hid e13x
                  have E11 := Lib.hid e11x
                  have N1116 := Lib.hid n1116
                  clear n1116 e11x e13x hgep16 e16 hs
                  first | refine ⟨fun _ => HS.out, ?_⟩ | refine ⟨HS.out, ?_⟩
                  refine LeftL.one 14 rfl (by kernel_rfl) ?_
                  have HSX := Lib.hid HS.out.size
                  have L16 := Lib.hid E16.out.lt
                  refine wpList_append_both rfl (.tmp 68) (.tmp 70) 64 rfl 3 i0 _ 1 8 Tryd.underlying64 HI0.out HZ0.out HZ1.out HZ2.out rfl _ l.length (intsC l) _ rfl E11.out _ 1 [.int .i64 (k : Int)] _ rfl E13.out (by simp [Value.oneCell']) (by have := HL1.out; unfold maxLen; omega) (by have := HL1.out; omega) ?_
                  intro v14 X7 own14 e14 hf ho
                  obtain ⟨ad14, cp14, rfl⟩ := e14.form
                  have hs := HS.out.call hf HS.out.size (fun x hx hm => by have := O11.out x (by simpa using hm); omega)
                  have n14 : ∀ b, own14 = some b → b ≠ p16 := fun b hb => by
                    rcases ho with h | ⟨q, h, hq⟩
                    · exact N1116.out b (by rw [← h]; exact hb)
                    · rw [h] at hb; cases hb; exact Nat.ne_of_gt (Nat.lt_of_lt_of_le L16.out hq)
                  have e16x := hf.blk E16.out E16.out.lt (fun hm => by have := N1116.out p16 (by simpa using hm); exact this rfl)
                  clear hf ho HS E16
                  have HS := Lib.hid hs
                  have E14 := Lib.hid e14
                  have N14 := Lib.hid n14
                  have E16 := Lib.hid e16x
                  clear e16x n14 e14 hs
                  refine wpList_nil ?_
                  refine ⟨fun _ => HS.out, ?_⟩
                  first | (refine LeftL.run (v := ?_) 15 rfl (by kernel_rfl) rfl (fun _ _ d _ _ h => by cases d <;> exact h) ?_ HS.out ?_; rotate_left; (· intro V hV; obtain ⟨q0, q1, q2⟩ := HFX.out V hV; clear hV; go_simp; rfl); (intro K' hK'; go_simp; refine hK' _ ?_; clear hK' K')) | (refine LeftL.runG (v := ?_) 15 rfl (by kernel_rfl) rfl (fun _ _ d _ _ h => by cases d <;> exact h) ?_ HS.out ?_; rotate_left; (· intro V hV; obtain ⟨q0, q1, q2⟩ := HFX.out V hV; clear hV; go_simp; rfl); (intro K' hK'; go_simp; refine hK' _ ?_; clear hK' K')) | (refine LeftL.take (v := undef) 15 rfl (by kernel_rfl) (fun _ _ d _ _ h => by cases d <;> exact h) (.inr ⟨rfl, rfl⟩) HS.out ?_; (intro K' hK'; go_simp; refine hK' _ ?_; clear hK' K'))
                  refine LeftL.one 17 rfl (by kernel_rfl) ?_
                  refine wpList_storeB (P := Tryd.prog) (ty := 128) (cs := [.int .i64 mx, .int .i64 sx, .slice ad14 (l.length + 1) cp14, .bool false]) rfl rfl E16.out rfl rfl rfl info128 (by simp [Value.oneCell']) ?_
                  refine wpList_nil ?_
                  have hs := HS.out.setRow (g := p16) (.inr Gp16.out) #[.int .i64 mx, .int .i64 sx, .slice ad14 (l.length + 1) cp14, .bool false]
                  have e16y := E16.out.row [.int .i64 mx, .int .i64 sx, .slice ad14 (l.length + 1) cp14, .bool false]
                  have e14y := E14.out.kept (w' := X7.setRow p16 #[.int .i64 mx, .int .i64 sx, .slice ad14 (l.length + 1) cp14, .bool false]) (fun b hb => setRow_other _ _ _ _ (fun h => N14.out b hb h))
                  refine ⟨fun _ => hs, ?_⟩
                  refine LeftL.done (by kernel_rfl) ?_
                  simp only [Act.put]
                  go_wp2_with fail
                  go_meet
                  case rel => exact ⟨p16, ad14, cp14, own14, rfl, Gp16.out, e16y, e14y, hs⟩
              · go_wp2_with fail
                obtain ⟨p16, hp16⟩ : ∃ b, b = X2.heap.size := ⟨_, rfl⟩
                have e16 : Blk (X2.alloc (Obj.cells #[Value.int .i64 0, Value.int .i64 0, Value.slice none 0 0, Value.bool false] 128)) p16 128 [.int .i64 0, .int .i64 0, .slice none 0 0, .bool false] := by rw [hp16]; exact Blk.new X2 128 [.int .i64 0, .int .i64 0, .slice none 0 0, .bool false]
                have hs := HS.out.alloc HS.out.size (Obj.cells #[Value.int .i64 0, Value.int .i64 0, Value.slice none 0 0, Value.bool false] 128)
                have hgep16 : w1.heap.size ≤ p16 := by rw [hp16]; exact HS.out.size
                have e11x := E11.out.alloc (Obj.cells #[Value.int .i64 0, Value.int .i64 0, Value.slice none 0 0, Value.bool false] 128)
                have n1116 : ∀ b, own11 = some b → b ≠ p16 := fun b hb => by rw [hp16]; exact Nat.ne_of_lt (E11.out.lt b hb)
                rw [← hp16]
                generalize X2.alloc (Obj.cells #[Value.int .i64 0, Value.int .i64 0, Value.slice none 0 0, Value.bool false] 128) = X8 at hs e16 e11x ⊢
                clear HS E11 hp16
                have HS := Lib.hid hs
                have E16 := Lib.hid e16
                have Gp16 := Lib.hid hgep16
                have E11 := Lib.hid e11x
                have N1116 := Lib.hid n1116
                clear n1116 e11x hgep16 e16 hs
                first | refine ⟨fun _ => HS.out, ?_⟩ | refine ⟨HS.out, ?_⟩
                refine LeftL.one 13 rfl (by kernel_rfl) ?_
                go_wp2_with fail
                obtain ⟨b13, hb13⟩ : ∃ b, b = X8.heap.size := ⟨_, rfl⟩
                have e13 : Sl (X8.alloc (Obj.cells #[Value.int .i64 (k : Int)] 3)) 3 1 (.slice (some ⟨b13, 0, none⟩) 1 1) 1 [.int .i64 (k : Int)] (some b13) := by rw [hb13]; exact ⟨rfl, .inr ⟨X8.heap.size, 0, 1, _, rfl, rfl, heap_alloc_new X8 _, Nat.le_refl _, by decide, by simp, by simp⟩⟩
                have hs := HS.out.alloc HS.out.size (Obj.cells #[Value.int .i64 (k : Int)] 3)
                have hgeb13 : w1.heap.size ≤ b13 := by rw [hb13]; exact HS.out.size
                have e11x := E11.out.alloc (Obj.cells #[Value.int .i64 (k : Int)] 3)
                have e16x := E16.out.alloc (Obj.cells #[Value.int .i64 (k : Int)] 3)
                have n1113 : ∀ b, own11 = some b → b ≠ b13 := fun b hb => by rw [hb13]; exact Nat.ne_of_lt (E11.out.lt b hb)
                rw [← hb13]
                generalize X8.alloc (Obj.cells #[Value.int .i64 (k : Int)] 3) = X9 at hs e13 e11x e16x ⊢
                clear HS E11 E16 hb13
                have HS := Lib.hid hs
                have E13 := Lib.hid e13
                have Gb13 := Lib.hid hgeb13
                have E11 := Lib.hid e11x
                have E16 := Lib.hid e16x
                have N1113 := Lib.hid n1113
                clear n1113 e16x e11x hgeb13 e13 hs
                first | refine ⟨fun _ => HS.out, ?_⟩ | refine ⟨HS.out, ?_⟩
                refine LeftL.one 14 rfl (by kernel_rfl) ?_
                have HSX := Lib.hid HS.out.size
                have L16 := Lib.hid E16.out.lt
                refine wpList_append_both rfl (.tmp 68) (.tmp 70) 64 rfl 3 i0 _ 1 8 Tryd.underlying64 HI0.out HZ0.out HZ1.out HZ2.out rfl _ l.length (intsC l) _ rfl E11.out _ 1 [.int .i64 (k : Int)] _ rfl E13.out (by simp [Value.oneCell']) (by have := HL1.out; unfold maxLen; omega) (by have := HL1.out; omega) ?_
                intro v14 X10 own14 e14 hf ho
                obtain ⟨ad14, cp14, rfl⟩ := e14.form
                have hs := HS.out.call hf HS.out.size (fun x hx hm => by have := O11.out x (by simpa using hm); omega)
                have n14 : ∀ b, own14 = some b → b ≠ p16 := fun b hb => by
                  rcases ho with h | ⟨q, h, hq⟩
                  · exact N1116.out b (by rw [← h]; exact hb)
                  · rw [h] at hb; cases hb; exact Nat.ne_of_gt (Nat.lt_of_lt_of_le L16.out hq)
                have e16x := hf.blk E16.out E16.out.lt (fun hm => by have := N1116.out p16 (by simpa using hm); exact this rfl)
                clear hf ho HS E16
                have HS := Lib.hid hs
                have E14 := Lib.hid e14
                have N14 := Lib.hid n14
                have E16 := Lib.hid e16x
                clear e16x n14 e14 hs
                refine wpList_nil ?_
                refine ⟨fun _ => HS.out, ?_⟩
                first | (refine LeftL.run (v := ?_) 15 rfl (by kernel_rfl) rfl (fun _ _ d _ _ h => by cases d <;> exact h) ?_ HS.out ?_; rotate_left; (· intro V hV; obtain ⟨q0, q1, q2⟩ := HFX.out V hV; clear hV; go_simp; rfl); (intro K' hK'; go_simp; refine hK' _ ?_; clear hK' K')) | (refine LeftL.runG (v := ?_) 15 rfl (by kernel_rfl) rfl (fun _ _ d _ _ h => by cases d <;> exact h) ?_ HS.out ?_; rotate_left; (· intro V hV; obtain ⟨q0, q1, q2⟩ := HFX.out V hV; clear hV; go_simp; rfl); (intro K' hK'; go_simp; refine hK' _ ?_; clear hK' K')) | (refine LeftL.take (v := undef) 15 rfl (by kernel_rfl) (fun _ _ d _ _ h => by cases d <;> exact h) (.inr ⟨rfl, rfl⟩) HS.out ?_; (intro K' hK'; go_simp; refine hK' _ ?_; clear hK' K'))
                refine LeftL.one 17 rfl (by kernel_rfl) ?_
                refine wpList_storeB (P := Tryd.prog) (ty := 128) (cs := [.int .i64 mx, .int .i64 sx, .slice ad14 (l.length + 1) cp14, .bool false]) rfl rfl E16.out rfl rfl rfl info128 (by simp [Value.oneCell']) ?_
                refine wpList_nil ?_
                have hs := HS.out.setRow (g := p16) (.inr Gp16.out) #[.int .i64 mx, .int .i64 sx, .slice ad14 (l.length + 1) cp14, .bool false]
                have e16y := E16.out.row [.int .i64 mx, .int .i64 sx, .slice ad14 (l.length + 1) cp14, .bool false]
                have e14y := E14.out.kept (w' := X10.setRow p16 #[.int .i64 mx, .int .i64 sx, .slice ad14 (l.length + 1) cp14, .bool false]) (fun b hb => setRow_other _ _ _ _ (fun h => N14.out b hb h))
                refine ⟨fun _ => hs, ?_⟩
                refine LeftL.done (by kernel_rfl) ?_
                simp only [Act.put]
                go_wp2_with fail
                go_meet
                case rel => exact ⟨p16, ad14, cp14, own14, rfl, Gp16.out, e16y, e14y, hs⟩
            · go_wp2_with fail
              obtain ⟨b13, hb13⟩ : ∃ b, b = X1.heap.size := ⟨_, rfl⟩
              have e13 : Sl (X1.alloc (Obj.cells #[Value.int .i64 (k : Int)] 3)) 3 1 (.slice (some ⟨b13, 0, none⟩) 1 1) 1 [.int .i64 (k : Int)] (some b13) := by rw [hb13]; exact ⟨rfl, .inr ⟨X1.heap.size, 0, 1, _, rfl, rfl, heap_alloc_new X1 _, Nat.le_refl _, by decide, by simp, by simp⟩⟩
              have hs := HS.out.alloc HS.out.size (Obj.cells #[Value.int .i64 (k : Int)] 3)
              have hgeb13 : w1.heap.size ≤ b13 := by rw [hb13]; exact HS.out.size
              have e8x := E8.out.alloc (Obj.cells #[Value.int .i64 (k : Int)] 3)
              have n813 : b8 ≠ b13 := by rw [hb13]; exact Nat.ne_of_lt (E8.out.lt b8 rfl)
              rw [← hb13]
              generalize X1.alloc (Obj.cells #[Value.int .i64 (k : Int)] 3) = X11 at hs e13 e8x ⊢
              clear HS E8 hb13
              have HS := Lib.hid hs
              have E13 := Lib.hid e13
              have Gb13 := Lib.hid hgeb13
              have E8 := Lib.hid e8x
              have N813 := Lib.hid n813
              clear n813 e8x hgeb13 e13 hs
              first | refine ⟨fun _ => HS.out, ?_⟩ | refine ⟨HS.out, ?_⟩
              refine LeftL.two 11 16 rfl rfl (by kernel_rfl) ?_ ?_
              · have HSX := Lib.hid HS.out.size
                have L13 := Lib.hid (E13.out.lt b13 rfl)
                refine wpList_append_both rfl (.tmp 65) (.tmp 67) 64 rfl 3 i0 _ 1 8 Tryd.underlying64 HI0.out HZ0.out HZ1.out HZ2.out rfl _ 0 [] _ rfl E8.out _ l.length (intsC l) _ rfl (HSLW.out.frm HS.out (fun b hb => HSLW.out.lt b hb) (by simp)) (intsC_one l) (by have := HL1.out; unfold maxLen; omega) (by have := HL1.out; omega) ?_
                intro v11 X12 own11 e11 hf ho
                rw [Nat.zero_add, List.nil_append] at e11
                obtain ⟨ad11, cp11, rfl⟩ := e11.form
                have hs := HS.out.call hf HS.out.size (fun x hx hm => by have := Gb8.out; simp at hm; omega)
                have e13x := E13.out.frm hf (fun b hb => E13.out.lt b hb) (fun b hb hm => by cases hb; have := N813.out; simp at hm; omega)
                have o11 : ∀ b, own11 = some b → w1.heap.size ≤ b := fun b hb => by
                  rcases ho with h | ⟨q, h, hq⟩
                  · rw [h] at hb; cases hb; exact Gb8.out
                  · rw [h] at hb; cases hb; exact Nat.le_trans HSX.out hq
                have n1113 : ∀ b, own11 = some b → b ≠ b13 := fun b hb => by
                  rcases ho with h | ⟨q, h, hq⟩
                  · rw [h] at hb; cases hb; exact N813.out
                  · rw [h] at hb; cases hb; exact Nat.ne_of_gt (Nat.lt_of_lt_of_le L13.out hq)
                clear hf ho HS E13
                have HS := Lib.hid hs
                have E11 := Lib.hid e11
                have E13 := Lib.hid e13x
                have O11 := Lib.hid o11
                have N1113 := Lib.hid n1113
                clear n1113 o11 e13x e11 hs
                refine wpList_nil ?_
                refine ⟨fun _ => HS.out, ?_⟩
                refine LeftL.two 14 16 rfl rfl (by kernel_rfl) ?_ ?_
                · refine wpList_append_both rfl (.tmp 68) (.tmp 70) 64 rfl 3 i0 _ 1 8 Tryd.underlying64 HI0.out HZ0.out HZ1.out HZ2.out rfl _ l.length (intsC l) _ rfl E11.out _ 1 [.int .i64 (k : Int)] _ rfl E13.out (by simp [Value.oneCell']) (by have := HL1.out; unfold maxLen; omega) (by have := HL1.out; omega) ?_
                  intro v14 X13 own14 e14 hf ho
                  obtain ⟨ad14, cp14, rfl⟩ := e14.form
                  have hs := HS.out.call hf HS.out.size (fun x hx hm => by have := O11.out x (by simpa using hm); omega)
                  clear hf ho HS
                  have HS := Lib.hid hs
                  have E14 := Lib.hid e14
                  clear e14 hs
                  refine wpList_nil ?_
                  refine ⟨fun _ => HS.out, ?_⟩
                  first | (refine LeftL.run (v := ?_) 15 rfl (by kernel_rfl) rfl (fun _ _ d _ _ h => by cases d <;> exact h) ?_ HS.out ?_; rotate_left; (· intro V hV; obtain ⟨q0, q1, q2⟩ := HFX.out V hV; clear hV; go_simp; rfl); (intro K' hK'; go_simp; refine hK' _ ?_; clear hK' K')) | (refine LeftL.runG (v := ?_) 15 rfl (by kernel_rfl) rfl (fun _ _ d _ _ h => by cases d <;> exact h) ?_ HS.out ?_; rotate_left; (· intro V hV; obtain ⟨q0, q1, q2⟩ := HFX.out V hV; clear hV; go_simp; rfl); (intro K' hK'; go_simp; refine hK' _ ?_; clear hK' K')) | (refine LeftL.take (v := undef) 15 rfl (by kernel_rfl) (fun _ _ d _ _ h => by cases d <;> exact h) (.inr ⟨rfl, rfl⟩) HS.out ?_; (intro K' hK'; go_simp; refine hK' _ ?_; clear hK' K'))
                  refine LeftL.one 16 rfl (by kernel_rfl) ?_
                  go_wp2_with fail
                  obtain ⟨p16, hp16⟩ : ∃ b, b = X13.heap.size := ⟨_, rfl⟩
                  have e16 : Blk (X13.alloc (Obj.cells #[Value.int .i64 0, Value.int .i64 0, Value.slice none 0 0, Value.bool false] 128)) p16 128 [.int .i64 0, .int .i64 0, .slice none 0 0, .bool false] := by rw [hp16]; exact Blk.new X13 128 [.int .i64 0, .int .i64 0, .slice none 0 0, .bool false]
                  have hs := HS.out.alloc HS.out.size (Obj.cells #[Value.int .i64 0, Value.int .i64 0, Value.slice none 0 0, Value.bool false] 128)
                  have hgep16 : w1.heap.size ≤ p16 := by rw [hp16]; exact HS.out.size
                  have e14x := E14.out.alloc (Obj.cells #[Value.int .i64 0, Value.int .i64 0, Value.slice none 0 0, Value.bool false] 128)
                  have n14 : ∀ b, own14 = some b → b ≠ p16 := fun b hb => by rw [hp16]; exact Nat.ne_of_lt (E14.out.lt b hb)
                  rw [← hp16]
                  generalize X13.alloc (Obj.cells #[Value.int .i64 0, Value.int .i64 0, Value.slice none 0 0, Value.bool false] 128) = X14 at hs e16 e14x ⊢
                  clear HS E14 hp16
                  have HS := Lib.hid hs
                  have E16 := Lib.hid e16
                  have Gp16 := Lib.hid hgep16
                  have E14 := Lib.hid e14x
                  have N14 := Lib.hid n14
                  clear n14 e14x hgep16 e16 hs
                  first | refine ⟨fun _ => HS.out, ?_⟩ | refine ⟨HS.out, ?_⟩
                  refine LeftL.one 17 rfl (by kernel_rfl) ?_
                  refine wpList_storeB (P := Tryd.prog) (ty := 128) (cs := [.int .i64 mx, .int .i64 sx, .slice ad14 (l.length + 1) cp14, .bool false]) rfl rfl E16.out rfl rfl rfl info128 (by simp [Value.oneCell']) ?_
                  refine wpList_nil ?_
                  have hs := HS.out.setRow (g := p16) (.inr Gp16.out) #[.int .i64 mx, .int .i64 sx, .slice ad14 (l.length + 1) cp14, .bool false]
                  have e16y := E16.out.row [.int .i64 mx, .int .i64 sx, .slice ad14 (l.length + 1) cp14, .bool false]
                  have e14y := E14.out.kept (w' := X14.setRow p16 #[.int .i64 mx, .int .i64 sx, .slice ad14 (l.length + 1) cp14, .bool false]) (fun b hb => setRow_other _ _ _ _ (fun h => N14.out b hb h))
                  refine ⟨fun _ => hs, ?_⟩
                  refine LeftL.done (by kernel_rfl) ?_
                  simp only [Act.put]
                  go_wp2_with fail
                  go_meet
                  case rel => exact ⟨p16, ad14, cp14, own14, rfl, Gp16.out, e16y, e14y, hs⟩
                · go_wp2_with fail
                  obtain ⟨p16, hp16⟩ : ∃ b, b = X12.heap.size := ⟨_, rfl⟩
                  have e16 : Blk (X12.alloc (Obj.cells #[Value.int .i64 0, Value.int .i64 0, Value.slice none 0 0, Value.bool false] 128)) p16 128 [.int .i64 0, .int .i64 0, .slice none 0 0, .bool false] := by rw [hp16]; exact Blk.new X12 128 [.int .i64 0, .int .i64 0, .slice none 0 0, .bool false]
                  have hs := HS.out.alloc HS.out.size (Obj.cells #[Value.int .i64 0, Value.int .i64 0, Value.slice none 0 0, Value.bool false] 128)
                  have hgep16 : w1.heap.size ≤ p16 := by rw [hp16]; exact HS.out.size
                  have e13x := E13.out.alloc (Obj.cells #[Value.int .i64 0, Value.int .i64 0, Value.slice none 0 0, Value.bool false] 128)
                  have e11x := E11.out.alloc (Obj.cells #[Value.int .i64 0, Value.int .i64 0, Value.slice none 0 0, Value.bool false] 128)
                  have n1116 : ∀ b, own11 = some b → b ≠ p16 := fun b hb => by rw [hp16]; exact Nat.ne_of_lt (E11.out.lt b hb)
                  rw [← hp16]
                  generalize X12.alloc (Obj.cells #[Value.int .i64 0, Value.int .i64 0, Value.slice none 0 0, Value.bool false] 128) = X15 at hs e16 e13x e11x ⊢
                  clear HS E13 E11 hp16
                  have HS := Lib.hid hs
                  have E16 := Lib.hid e16
                  have Gp16 := Lib.hid hgep16
                  have E13 := Lib.hid e13x
                  have E11 := Lib.hid e11x
                  have N1116 := Lib.hid n1116
                  clear n1116 e11x e13x hgep16 e16 hs
                  first | refine ⟨fun _ => HS.out, ?_⟩ | refine ⟨HS.out, ?_⟩
                  refine LeftL.one 14 rfl (by kernel_rfl) ?_
                  have HSX := Lib.hid HS.out.size
                  have L16 := Lib.hid E16.out.lt
                  refine wpList_append_both rfl (.tmp 68) (.tmp 70) 64 rfl 3 i0 _ 1 8 Tryd.underlying64 HI0.out HZ0.out HZ1.out HZ2.out rfl _ l.length (intsC l) _ rfl E11.out _ 1 [.int .i64 (k : Int)] _ rfl E13.out (by simp [Value.oneCell']) (by have := HL1.out; unfold maxLen; omega) (by have := HL1.out; omega) ?_
                  intro v14 X16 own14 e14 hf ho
                  obtain ⟨ad14, cp14, rfl⟩ := e14.form
                  have hs := HS.out.call hf HS.out.size (fun x hx hm => by have := O11.out x (by simpa using hm); omega)
                  have n14 : ∀ b, own14 = some b → b ≠ p16 := fun b hb => by
                    rcases ho with h | ⟨q, h, hq⟩
                    · exact N1116.out b (by rw [← h]; exact hb)
                    · rw [h] at hb; cases hb; exact Nat.ne_of_gt (Nat.lt_of_lt_of_le L16.out hq)
                  have e16x := hf.blk E16.out E16.out.lt (fun hm => by have := N1116.out p16 (by simpa using hm); exact this rfl)
                  clear hf ho HS E16
                  have HS := Lib.hid hs
                  have E14 := Lib.hid e14
                  have N14 := Lib.hid n14
                  have E16 := Lib.hid e16x
                  clear e16x n14 e14 hs
                  refine wpList_nil ?_
                  refine ⟨fun _ => HS.out, ?_⟩
                  first | (refine LeftL.run (v := ?_) 15 rfl (by kernel_rfl) rfl (fun _ _ d _ _ h => by cases d <;> exact h) ?_ HS.out ?_; rotate_left; (· intro V hV; obtain ⟨q0, q1, q2⟩ := HFX.out V hV; clear hV; go_simp; rfl); (intro K' hK'; go_simp; refine hK' _ ?_; clear hK' K')) | (refine LeftL.runG (v := ?_) 15 rfl (by kernel_rfl) rfl (fun _ _ d _ _ h => by cases d <;> exact h) ?_ HS.out ?_; rotate_left; (· intro V hV; obtain ⟨q0, q1, q2⟩ := HFX.out V hV; clear hV; go_simp; rfl); (intro K' hK'; go_simp; refine hK' _ ?_; clear hK' K')) | (refine LeftL.take (v := undef) 15 rfl (by kernel_rfl) (fun _ _ d _ _ h => by cases d <;> exact h) (.inr ⟨rfl, rfl⟩) HS.out ?_; (intro K' hK'; go_simp; refine hK' _ ?_; clear hK' K'))
                  refine LeftL.one 17 rfl (by kernel_rfl) ?_
                  refine wpList_storeB (P := Tryd.prog) (ty := 128) (cs := [.int .i64 mx, .int .i64 sx, .slice ad14 (l.length + 1) cp14, .bool false]) rfl rfl E16.out rfl rfl rfl info128 (by simp [Value.oneCell']) ?_
                  refine wpList_nil ?_
                  have hs := HS.out.setRow (g := p16) (.inr Gp16.out) #[.int .i64 mx, .int .i64 sx, .slice ad14 (l.length + 1) cp14, .bool false]
                  have e16y := E16.out.row [.int .i64 mx, .int .i64 sx, .slice ad14 (l.length + 1) cp14, .bool false]
                  have e14y := E14.out.kept (w' := X16.setRow p16 #[.int .i64 mx, .int .i64 sx, .slice ad14 (l.length + 1) cp14, .bool false]) (fun b hb => setRow_other _ _ _ _ (fun h => N14.out b hb h))
                  refine ⟨fun _ => hs, ?_⟩
                  refine LeftL.done (by kernel_rfl) ?_
                  simp only [Act.put]
                  go_wp2_with fail
                  go_meet
                  case rel => exact ⟨p16, ad14, cp14, own14, rfl, Gp16.out, e16y, e14y, hs⟩
              · go_wp2_with fail
                obtain ⟨p16, hp16⟩ : ∃ b, b = X11.heap.size := ⟨_, rfl⟩
                have e16 : Blk (X11.alloc (Obj.cells #[Value.int .i64 0, Value.int .i64 0, Value.slice none 0 0, Value.bool false] 128)) p16 128 [.int .i64 0, .int .i64 0, .slice none 0 0, .bool false] := by rw [hp16]; exact Blk.new X11 128 [.int .i64 0, .int .i64 0, .slice none 0 0, .bool false]
                have hs := HS.out.alloc HS.out.size (Obj.cells #[Value.int .i64 0, Value.int .i64 0, Value.slice none 0 0, Value.bool false] 128)
                have hgep16 : w1.heap.size ≤ p16 := by rw [hp16]; exact HS.out.size
                have e8x := E8.out.alloc (Obj.cells #[Value.int .i64 0, Value.int .i64 0, Value.slice none 0 0, Value.bool false] 128)
                have e13x := E13.out.alloc (Obj.cells #[Value.int .i64 0, Value.int .i64 0, Value.slice none 0 0, Value.bool false] 128)
                have n816 : b8 ≠ p16 := by rw [hp16]; exact Nat.ne_of_lt (E8.out.lt b8 rfl)
                rw [← hp16]
                generalize X11.alloc (Obj.cells #[Value.int .i64 0, Value.int .i64 0, Value.slice none 0 0, Value.bool false] 128) = X17 at hs e16 e8x e13x ⊢
                clear HS E8 E13 hp16
                have HS := Lib.hid hs
                have E16 := Lib.hid e16
                have Gp16 := Lib.hid hgep16
                have E8 := Lib.hid e8x
                have E13 := Lib.hid e13x
                have N816 := Lib.hid n816
                clear n816 e13x e8x hgep16 e16 hs
                first | refine ⟨fun _ => HS.out, ?_⟩ | refine ⟨HS.out, ?_⟩
                refine LeftL.one 11 rfl (by kernel_rfl) ?_
                have HSX := Lib.hid HS.out.size
                have L13 := Lib.hid (E13.out.lt b13 rfl)
                have L16 := Lib.hid E16.out.lt
                refine wpList_append_both rfl (.tmp 65) (.tmp 67) 64 rfl 3 i0 _ 1 8 Tryd.underlying64 HI0.out HZ0.out HZ1.out HZ2.out rfl _ 0 [] _ rfl E8.out _ l.length (intsC l) _ rfl (HSLW.out.frm HS.out (fun b hb => HSLW.out.lt b hb) (by simp)) (intsC_one l) (by have := HL1.out; unfold maxLen; omega) (by have := HL1.out; omega) ?_
                intro v11 X18 own11 e11 hf ho
                rw [Nat.zero_add, List.nil_append] at e11
                obtain ⟨ad11, cp11, rfl⟩ := e11.form
                have hs := HS.out.call hf HS.out.size (fun x hx hm => by have := Gb8.out; simp at hm; omega)
                have e13x := E13.out.frm hf (fun b hb => E13.out.lt b hb) (fun b hb hm => by cases hb; have := N813.out; simp at hm; omega)
                have e16x := hf.blk E16.out E16.out.lt (fun hm => by have := N816.out; simp at hm; omega)
                have o11 : ∀ b, own11 = some b → w1.heap.size ≤ b := fun b hb => by
                  rcases ho with h | ⟨q, h, hq⟩
                  · rw [h] at hb; cases hb; exact Gb8.out
                  · rw [h] at hb; cases hb; exact Nat.le_trans HSX.out hq
                have n1113 : ∀ b, own11 = some b → b ≠ b13 := fun b hb => by
                  rcases ho with h | ⟨q, h, hq⟩
                  · rw [h] at hb; cases hb; exact N813.out
                  · rw [h] at hb; cases hb; exact Nat.ne_of_gt (Nat.lt_of_lt_of_le L13.out hq)
                have n1116 : ∀ b, own11 = some b → b ≠ p16 := fun b hb => by
                  rcases ho with h | ⟨q, h, hq⟩
                  · rw [h] at hb; cases hb; exact N816.out
                  · rw [h] at hb; cases hb; exact Nat.ne_of_gt (Nat.lt_of_lt_of_le L16.out hq)
                clear hf ho HS E13 E16
                have HS := Lib.hid hs
                have E11 := Lib.hid e11
                have E13 := Lib.hid e13x
                have E16 := Lib.hid e16x
                have O11 := Lib.hid o11
                have N1113 := Lib.hid n1113
                have N1116 := Lib.hid n1116
                clear n1116 n1113 o11 e16x e13x e11 hs
                refine wpList_nil ?_
                refine ⟨fun _ => HS.out, ?_⟩
                refine LeftL.one 14 rfl (by kernel_rfl) ?_
                have HSX := Lib.hid HS.out.size
                have L16 := Lib.hid E16.out.lt
                refine wpList_append_both rfl (.tmp 68) (.tmp 70) 64 rfl 3 i0 _ 1 8 Tryd.underlying64 HI0.out HZ0.out HZ1.out HZ2.out rfl _ l.length (intsC l) _ rfl E11.out _ 1 [.int .i64 (k : Int)] _ rfl E13.out (by simp [Value.oneCell']) (by have := HL1.out; unfold maxLen; omega) (by have := HL1.out; omega) ?_
                intro v14 X19 own14 e14 hf ho
                obtain ⟨ad14, cp14, rfl⟩ := e14.form
                have hs := HS.out.call hf HS.out.size (fun x hx hm => by have := O11.out x (by simpa using hm); omega)
                have n14 : ∀ b, own14 = some b → b ≠ p16 := fun b hb => by
                  rcases ho with h | ⟨q, h, hq⟩
                  · exact N1116.out b (by rw [← h]; exact hb)
                  · rw [h] at hb; cases hb; exact Nat.ne_of_gt (Nat.lt_of_lt_of_le L16.out hq)
                have e16x := hf.blk E16.out E16.out.lt (fun hm => by have := N1116.out p16 (by simpa using hm); exact this rfl)
                clear hf ho HS E16
                have HS := Lib.hid hs
                have E14 := Lib.hid e14
                have N14 := Lib.hid n14
                have E16 := Lib.hid e16x
                clear e16x n14 e14 hs
                refine wpList_nil ?_
                refine ⟨fun _ => HS.out, ?_⟩
                first | (refine LeftL.run (v := ?_) 15 rfl (by kernel_rfl) rfl (fun _ _ d _ _ h => by cases d <;> exact h) ?_ HS.out ?_; rotate_left; (· intro V hV; obtain ⟨q0, q1, q2⟩ := HFX.out V hV; clear hV; go_simp; rfl); (intro K' hK'; go_simp; refine hK' _ ?_; clear hK' K')) | (refine LeftL.runG (v := ?_) 15 rfl (by kernel_rfl) rfl (fun _ _ d _ _ h => by cases d <;> exact h) ?_ HS.out ?_; rotate_left; (· intro V hV; obtain ⟨q0, q1, q2⟩ := HFX.out V hV; clear hV; go_simp; rfl); (intro K' hK'; go_simp; refine hK' _ ?_; clear hK' K')) | (refine LeftL.take (v := undef) 15 rfl (by kernel_rfl) (fun _ _ d _ _ h => by cases d <;> exact h) (.inr ⟨rfl, rfl⟩) HS.out ?_; (intro K' hK'; go_simp; refine hK' _ ?_; clear hK' K'))
                refine LeftL.one 17 rfl (by kernel_rfl) ?_
                refine wpList_storeB (P := Tryd.prog) (ty := 128) (cs := [.int .i64 mx, .int .i64 sx, .slice ad14 (l.length + 1) cp14, .bool false]) rfl rfl E16.out rfl rfl rfl info128 (by simp [Value.oneCell']) ?_
                refine wpList_nil ?_
                have hs := HS.out.setRow (g := p16) (.inr Gp16.out) #[.int .i64 mx, .int .i64 sx, .slice ad14 (l.length + 1) cp14, .bool false]
                have e16y := E16.out.row [.int .i64 mx, .int .i64 sx, .slice ad14 (l.length + 1) cp14, .bool false]
                have e14y := E14.out.kept (w' := X19.setRow p16 #[.int .i64 mx, .int .i64 sx, .slice ad14 (l.length + 1) cp14, .bool false]) (fun b hb => setRow_other _ _ _ _ (fun h => N14.out b hb h))
                refine ⟨fun _ => hs, ?_⟩
                refine LeftL.done (by kernel_rfl) ?_
                simp only [Act.put]
                go_wp2_with fail
                go_meet
                case rel => exact ⟨p16, ad14, cp14, own14, rfl, Gp16.out, e16y, e14y, hs⟩
            · go_wp2_with fail
              obtain ⟨p16, hp16⟩ : ∃ b, b = X1.heap.size := ⟨_, rfl⟩
              have e16 : Blk (X1.alloc (Obj.cells #[Value.int .i64 0, Value.int .i64 0, Value.slice none 0 0, Value.bool false] 128)) p16 128 [.int .i64 0, .int .i64 0, .slice none 0 0, .bool false] := by rw [hp16]; exact Blk.new X1 128 [.int .i64 0, .int .i64 0, .slice none 0 0, .bool false]
              have hs := HS.out.alloc HS.out.size (Obj.cells #[Value.int .i64 0, Value.int .i64 0, Value.slice none 0 0, Value.bool false] 128)
              have hgep16 : w1.heap.size ≤ p16 := by rw [hp16]; exact HS.out.size
              have e8x := E8.out.alloc (Obj.cells #[Value.int .i64 0, Value.int .i64 0, Value.slice none 0 0, Value.bool false] 128)
              have n816 : b8 ≠ p16 := by rw [hp16]; exact Nat.ne_of_lt (E8.out.lt b8 rfl)
              rw [← hp16]
              generalize X1.alloc (Obj.cells #[Value.int .i64 0, Value.int .i64 0, Value.slice none 0 0, Value.bool false] 128) = X20 at hs e16 e8x ⊢
              clear HS E8 hp16
              have HS := Lib.hid hs
              have E16 := Lib.hid e16
              have Gp16 := Lib.hid hgep16
              have E8 := Lib.hid e8x
              have N816 := Lib.hid n816
              clear n816 e8x hgep16 e16 hs
              first | refine ⟨fun _ => HS.out, ?_⟩ | refine ⟨HS.out, ?_⟩
              refine LeftL.two 11 13 rfl rfl (by kernel_rfl) ?_ ?_
              · have HSX := Lib.hid HS.out.size
                have L16 := Lib.hid E16.out.lt
                refine wpList_append_both rfl (.tmp 65) (.tmp 67) 64 rfl 3 i0 _ 1 8 Tryd.underlying64 HI0.out HZ0.out HZ1.out HZ2.out rfl _ 0 [] _ rfl E8.out _ l.length (intsC l) _ rfl (HSLW.out.frm HS.out (fun b hb => HSLW.out.lt b hb) (by simp)) (intsC_one l) (by have := HL1.out; unfold maxLen; omega) (by have := HL1.out; omega) ?_
                intro v11 X21 own11 e11 hf ho
                rw [Nat.zero_add, List.nil_append] at e11
                obtain ⟨ad11, cp11, rfl⟩ := e11.form
                have hs := HS.out.call hf HS.out.size (fun x hx hm => by have := Gb8.out; simp at hm; omega)
                have e16x := hf.blk E16.out E16.out.lt (fun hm => by have := N816.out; simp at hm; omega)
                have o11 : ∀ b, own11 = some b → w1.heap.size ≤ b := fun b hb => by
                  rcases ho with h | ⟨q, h, hq⟩
                  · rw [h] at hb; cases hb; exact Gb8.out
                  · rw [h] at hb; cases hb; exact Nat.le_trans HSX.out hq
                have n1116 : ∀ b, own11 = some b → b ≠ p16 := fun b hb => by
                  rcases ho with h | ⟨q, h, hq⟩
                  · rw [h] at hb; cases hb; exact N816.out
                  · rw [h] at hb; cases hb; exact Nat.ne_of_gt (Nat.lt_of_lt_of_le L16.out hq)
                clear hf ho HS E16
                have HS := Lib.hid hs
                have E11 := Lib.hid e11
                have E16 := Lib.hid e16x
                have O11 := Lib.hid o11
                have N1116 := Lib.hid n1116
                clear n1116 o11 e16x e11 hs
                refine wpList_nil ?_
                refine ⟨fun _ => HS.out, ?_⟩
                refine LeftL.one 13 rfl (by kernel_rfl) ?_
                go_wp2_with fail
                obtain ⟨b13, hb13⟩ : ∃ b, b = X21.heap.size := ⟨_, rfl⟩
                have e13 : Sl (X21.alloc (Obj.cells #[Value.int .i64 (k : Int)] 3)) 3 1 (.slice (some ⟨b13, 0, none⟩) 1 1) 1 [.int .i64 (k : Int)] (some b13) := by rw [hb13]; exact ⟨rfl, .inr ⟨X21.heap.size, 0, 1, _, rfl, rfl, heap_alloc_new X21 _, Nat.le_refl _, by decide, by simp, by simp⟩⟩
                have hs := HS.out.alloc HS.out.size (Obj.cells #[Value.int .i64 (k : Int)] 3)
                have hgeb13 : w1.heap.size ≤ b13 := by rw [hb13]; exact HS.out.size
                have e11x := E11.out.alloc (Obj.cells #[Value.int .i64 (k : Int)] 3)
                have e16x := E16.out.alloc (Obj.cells #[Value.int .i64 (k : Int)] 3)
                have n1113 : ∀ b, own11 = some b → b ≠ b13 := fun b hb => by rw [hb13]; exact Nat.ne_of_lt (E11.out.lt b hb)
                rw [← hb13]
                generalize X21.alloc (Obj.cells #[Value.int .i64 (k : Int)] 3) = X22 at hs e13 e11x e16x ⊢
                clear HS E11 E16 hb13
                have HS := Lib.hid hs
                have E13 := Lib.hid e13
                have Gb13 := Lib.hid hgeb13
                have E11 := Lib.hid e11x
                have E16 := Lib.hid e16x
                have N1113 := Lib.hid n1113
                clear n1113 e16x e11x hgeb13 e13 hs
                first | refine ⟨fun _ => HS.out, ?_⟩ | refine ⟨HS.out, ?_⟩
                refine LeftL.one 14 rfl (by kernel_rfl) ?_
                have HSX := Lib.hid HS.out.size
                have L16 := Lib.hid E16.out.lt
                refine wpList_append_both rfl (.tmp 68) (.tmp 70) 64 rfl 3 i0 _ 1 8 Tryd.underlying64 HI0.out HZ0.out HZ1.out HZ2.out rfl _ l.length (intsC l) _ rfl E11.out _ 1 [.int .i64 (k : Int)] _ rfl E13.out (by simp [Value.oneCell']) (by have := HL1.out; unfold maxLen; omega) (by have := HL1.out; omega) ?_
                intro v14 X23 own14 e14 hf ho
                obtain ⟨ad14, cp14, rfl⟩ := e14.form
                have hs := HS.out.call hf HS.out.size (fun x hx hm => by have := O11.out x (by simpa using hm); omega)
                have n14 : ∀ b, own14 = some b → b ≠ p16 := fun b hb => by
                  rcases ho with h | ⟨q, h, hq⟩
                  · exact N1116.out b (by rw [← h]; exact hb)
                  · rw [h] at hb; cases hb; exact Nat.ne_of_gt (Nat.lt_of_lt_of_le L16.out hq)
                have e16x := hf.blk E16.out E16.out.lt (fun hm => by have := N1116.out p16 (by simpa using hm); exact this rfl)
                clear hf ho HS E16
                have HS := Lib.hid hs
                have E14 := Lib.hid e14
                have N14 := Lib.hid n14
                have E16 := Lib.hid e16x
                clear e16x n14 e14 hs
                refine wpList_nil ?_
                refine ⟨fun _ => HS.out, ?_⟩
                first | (refine LeftL.run (v := ?_) 15 rfl (by kernel_rfl) rfl (fun _ _ d _ _ h => by cases d <;> exact h) ?_ HS.out ?_; rotate_left; (· intro V hV; obtain ⟨q0, q1, q2⟩ := HFX.out V hV; clear hV; go_simp; rfl); (intro K' hK'; go_simp; refine hK' _ ?_; clear hK' K')) | (refine LeftL.runG (v := ?_) 15 rfl (by kernel_rfl) rfl (fun _ _ d _ _ h => by cases d <;> exact h) ?_ HS.out ?_; rotate_left; (· intro V hV; obtain ⟨q0, q1, q2⟩ := HFX.out V hV; clear hV; go_simp; rfl); (intro K' hK'; go_simp; refine hK' _ ?_; clear hK' K')) | (refine LeftL.take (v := undef) 15 rfl (by kernel_rfl) (fun _ _ d _ _ h => by cases d <;> exact h) (.inr ⟨rfl, rfl⟩) HS.out ?_; (intro K' hK'; go_simp; refine hK' _ ?_; clear hK' K'))
                refine LeftL.one 17 rfl (by kernel_rfl) ?_
                refine wpList_storeB (P := Tryd.prog) (ty := 128) (cs := [.int .i64 mx, .int .i64 sx, .slice ad14 (l.length + 1) cp14, .bool false]) rfl rfl E16.out rfl rfl rfl info128 (by simp [Value.oneCell']) ?_
                refine wpList_nil ?_
                have hs := HS.out.setRow (g := p16) (.inr Gp16.out) #[.int .i64 mx, .int .i64 sx, .slice ad14 (l.length + 1) cp14, .bool false]
                have e16y := E16.out.row [.int .i64 mx, .int .i64 sx, .slice ad14 (l.length + 1) cp14, .bool false]
                have e14y := E14.out.kept (w' := X23.setRow p16 #[.int .i64 mx, .int .i64 sx, .slice ad14 (l.length + 1) cp14, .bool false]) (fun b hb => setRow_other _ _ _ _ (fun h => N14.out b hb h))
                refine ⟨fun _ => hs, ?_⟩
                refine LeftL.done (by kernel_rfl) ?_
                simp only [Act.put]
                go_wp2_with fail
                go_meet
                case rel => exact ⟨p16, ad14, cp14, own14, rfl, Gp16.out, e16y, e14y, hs⟩
              · go_wp2_with fail
                obtain ⟨b13, hb13⟩ : ∃ b, b = X20.heap.size := ⟨_, rfl⟩
                have e13 : Sl (X20.alloc (Obj.cells #[Value.int .i64 (k : Int)] 3)) 3 1 (.slice (some ⟨b13, 0, none⟩) 1 1) 1 [.int .i64 (k : Int)] (some b13) := by rw [hb13]; exact ⟨rfl, .inr ⟨X20.heap.size, 0, 1, _, rfl, rfl, heap_alloc_new X20 _, Nat.le_refl _, by decide, by simp, by simp⟩⟩
                have hs := HS.out.alloc HS.out.size (Obj.cells #[Value.int .i64 (k : Int)] 3)
                have hgeb13 : w1.heap.size ≤ b13 := by rw [hb13]; exact HS.out.size
                have e8x := E8.out.alloc (Obj.cells #[Value.int .i64 (k : Int)] 3)
                have e16x := E16.out.alloc (Obj.cells #[Value.int .i64 (k : Int)] 3)
                have n813 : b8 ≠ b13 := by rw [hb13]; exact Nat.ne_of_lt (E8.out.lt b8 rfl)
                rw [← hb13]
                generalize X20.alloc (Obj.cells #[Value.int .i64 (k : Int)] 3) = X24 at hs e13 e8x e16x ⊢
                clear HS E8 E16 hb13
                have HS := Lib.hid hs
                have E13 := Lib.hid e13
                have Gb13 := Lib.hid hgeb13
                have E8 := Lib.hid e8x
                have E16 := Lib.hid e16x
                have N813 := Lib.hid n813
                clear n813 e16x e8x hgeb13 e13 hs
                first | refine ⟨fun _ => HS.out, ?_⟩ | refine ⟨HS.out, ?_⟩
                refine LeftL.one 11 rfl (by kernel_rfl) ?_
                have HSX := Lib.hid HS.out.size
                have L13 := Lib.hid (E13.out.lt b13 rfl)
                have L16 := Lib.hid E16.out.lt
                refine wpList_append_both rfl (.tmp 65) (.tmp 67) 64 rfl 3 i0 _ 1 8 Tryd.underlying64 HI0.out HZ0.out HZ1.out HZ2.out rfl _ 0 [] _ rfl E8.out _ l.length (intsC l) _ rfl (HSLW.out.frm HS.out (fun b hb => HSLW.out.lt b hb) (by simp)) (intsC_one l) (by have := HL1.out; unfold maxLen; omega) (by have := HL1.out; omega) ?_
                intro v11 X25 own11 e11 hf ho
                rw [Nat.zero_add, List.nil_append] at e11
                obtain ⟨ad11, cp11, rfl⟩ := e11.form
                have hs := HS.out.call hf HS.out.size (fun x hx hm => by have := Gb8.out; simp at hm; omega)
                have e13x := E13.out.frm hf (fun b hb => E13.out.lt b hb) (fun b hb hm => by cases hb; have := N813.out; simp at hm; omega)
                have e16x := hf.blk E16.out E16.out.lt (fun hm => by have := N816.out; simp at hm; omega)
                have o11 : ∀ b, own11 = some b → w1.heap.size ≤ b := fun b hb => by
                  rcases ho with h | ⟨q, h, hq⟩
                  · rw [h] at hb; cases hb; exact Gb8.out
                  · rw [h] at hb; cases hb; exact Nat.le_trans HSX.out hq
                have n1113 : ∀ b, own11 = some b → b ≠ b13 := fun b hb => by
                  rcases ho with h | ⟨q, h, hq⟩
                  · rw [h] at hb; cases hb; exact N813.out
                  · rw [h] at hb; cases hb; exact Nat.ne_of_gt (Nat.lt_of_lt_of_le L13.out hq)
                have n1116 : ∀ b, own11 = some b → b ≠ p16 := fun b hb => by
                  rcases ho with h | ⟨q, h, hq⟩
                  · rw [h] at hb; cases hb; exact N816.out
                  · rw [h] at hb; cases hb; exact Nat.ne_of_gt (Nat.lt_of_lt_of_le L16.out hq)
                clear hf ho HS E13 E16
                have HS := Lib.hid hs
                have E11 := Lib.hid e11
                have E13 := Lib.hid e13x
                have E16 := Lib.hid e16x
                have O11 := Lib.hid o11
                have N1113 := Lib.hid n1113
                have N1116 := Lib.hid n1116
                clear n1116 n1113 o11 e16x e13x e11 hs
                refine wpList_nil ?_
                refine ⟨fun _ => HS.out, ?_⟩
                refine LeftL.one 14 rfl (by kernel_rfl) ?_
                have HSX := Lib.hid HS.out.size
                have L16 := Lib.hid E16.out.lt
                refine wpList_append_both rfl (.tmp 68) (.tmp 70) 64 rfl 3 i0 _ 1 8 Tryd.underlying64 HI0.out HZ0.out HZ1.out HZ2.out rfl _ l.length (intsC l) _ rfl E11.out _ 1 [.int .i64 (k : Int)] _ rfl E13.out (by simp [Value.oneCell']) (by have := HL1.out; unfold maxLen; omega) (by have := HL1.out; omega) ?_
                intro v14 X26 own14 e14 hf ho
                obtain ⟨ad14, cp14, rfl⟩ := e14.form
                have hs := HS.out.call hf HS.out.size (fun x hx hm => by have := O11.out x (by simpa using hm); omega)
                have n14 : ∀ b, own14 = some b → b ≠ p16 := fun b hb => by
                  rcases ho with h | ⟨q, h, hq⟩
                  · exact N1116.out b (by rw [← h]; exact hb)
                  · rw [h] at hb; cases hb; exact Nat.ne_of_gt (Nat.lt_of_lt_of_le L16.out hq)
                have e16x := hf.blk E16.out E16.out.lt (fun hm => by have := N1116.out p16 (by simpa using hm); exact this rfl)
                clear hf ho HS E16
                have HS := Lib.hid hs
                have E14 := Lib.hid e14
                have N14 := Lib.hid n14
                have E16 := Lib.hid e16x
                clear e16x n14 e14 hs
                refine wpList_nil ?_
                refine ⟨fun _ => HS.out, ?_⟩
                first | (refine LeftL.run (v := ?_) 15 rfl (by kernel_rfl) rfl (fun _ _ d _ _ h => by cases d <;> exact h) ?_ HS.out ?_; rotate_left; (· intro V hV; obtain ⟨q0, q1, q2⟩ := HFX.out V hV; clear hV; go_simp; rfl); (intro K' hK'; go_simp; refine hK' _ ?_; clear hK' K')) | (refine LeftL.runG (v := ?_) 15 rfl (by kernel_rfl) rfl (fun _ _ d _ _ h => by cases d <;> exact h) ?_ HS.out ?_; rotate_left; (· intro V hV; obtain ⟨q0, q1, q2⟩ := HFX.out V hV; clear hV; go_simp; rfl); (intro K' hK'; go_simp; refine hK' _ ?_; clear hK' K')) | (refine LeftL.take (v := undef) 15 rfl (by kernel_rfl) (fun _ _ d _ _ h => by cases d <;> exact h) (.inr ⟨rfl, rfl⟩) HS.out ?_; (intro K' hK'; go_simp; refine hK' _ ?_; clear hK' K'))
                refine LeftL.one 17 rfl (by kernel_rfl) ?_
                refine wpList_storeB (P := Tryd.prog) (ty := 128) (cs := [.int .i64 mx, .int .i64 sx, .slice ad14 (l.length + 1) cp14, .bool false]) rfl rfl E16.out rfl rfl rfl info128 (by simp [Value.oneCell']) ?_
                refine wpList_nil ?_
                have hs := HS.out.setRow (g := p16) (.inr Gp16.out) #[.int .i64 mx, .int .i64 sx, .slice ad14 (l.length + 1) cp14, .bool false]
                have e16y := E16.out.row [.int .i64 mx, .int .i64 sx, .slice ad14 (l.length + 1) cp14, .bool false]
                have e14y := E14.out.kept (w' := X26.setRow p16 #[.int .i64 mx, .int .i64 sx, .slice ad14 (l.length + 1) cp14, .bool false]) (fun b hb => setRow_other _ _ _ _ (fun h => N14.out b hb h))
                refine ⟨fun _ => hs, ?_⟩
                refine LeftL.done (by kernel_rfl) ?_
                simp only [Act.put]
                go_wp2_with fail
                go_meet
                case rel => exact ⟨p16, ad14, cp14, own14, rfl, Gp16.out, e16y, e14y, hs⟩
          · go_wp2_with fail
            obtain ⟨b13, hb13⟩ : ∃ b, b = X0.heap.size := ⟨_, rfl⟩
            have e13 : Sl (X0.alloc (Obj.cells #[Value.int .i64 (k : Int)] 3)) 3 1 (.slice (some ⟨b13, 0, none⟩) 1 1) 1 [.int .i64 (k : Int)] (some b13) := by rw [hb13]; exact ⟨rfl, .inr ⟨X0.heap.size, 0, 1, _, rfl, rfl, heap_alloc_new X0 _, Nat.le_refl _, by decide, by simp, by simp⟩⟩
            have hs := HS.out.alloc HS.out.size (Obj.cells #[Value.int .i64 (k : Int)] 3)
            have hgeb13 : w1.heap.size ≤ b13 := by rw [hb13]; exact HS.out.size
            rw [← hb13]
            generalize X0.alloc (Obj.cells #[Value.int .i64 (k : Int)] 3) = X27 at hs e13 ⊢
            clear HS hb13
            have HS := Lib.hid hs
            have E13 := Lib.hid e13
            have Gb13 := Lib.hid hgeb13
            clear hgeb13 e13 hs
            first | refine ⟨fun _ => HS.out, ?_⟩ | refine ⟨HS.out, ?_⟩
            refine LeftL.two 8 16 rfl rfl (by kernel_rfl) ?_ ?_
            · go_wp2_with fail
              obtain ⟨b8, hb8⟩ : ∃ b, b = X27.heap.size := ⟨_, rfl⟩
              have e8 : Sl (X27.alloc (Obj.cells #[] 3)) 3 1 (.slice (some ⟨b8, 0, none⟩) 0 0) 0 [] (some b8) := by rw [hb8]; exact ⟨rfl, .inr ⟨X27.heap.size, 0, 0, _, rfl, rfl, heap_alloc_new X27 _, Nat.le_refl _, Nat.zero_le _, by simp, by simp⟩⟩
              have hs := HS.out.alloc HS.out.size (Obj.cells #[] 3)
              have hgeb8 : w1.heap.size ≤ b8 := by rw [hb8]; exact HS.out.size
              have e13x := E13.out.alloc (Obj.cells #[] 3)
              have n813 : b8 ≠ b13 := by rw [hb8]; exact Nat.ne_of_gt (E13.out.lt b13 rfl)
              rw [← hb8]
              generalize X27.alloc (Obj.cells #[] 3) = X28 at hs e8 e13x ⊢
              clear HS E13 hb8
              have HS := Lib.hid hs
              have E8 := Lib.hid e8
              have Gb8 := Lib.hid hgeb8
              have E13 := Lib.hid e13x
              have N813 := Lib.hid n813
              clear n813 e13x hgeb8 e8 hs
              first | refine ⟨fun _ => HS.out, ?_⟩ | refine ⟨HS.out, ?_⟩
              refine LeftL.two 11 16 rfl rfl (by kernel_rfl) ?_ ?_
              · have HSX := Lib.hid HS.out.size
                have L13 := Lib.hid (E13.out.lt b13 rfl)
                refine wpList_append_both rfl (.tmp 65) (.tmp 67) 64 rfl 3 i0 _ 1 8 Tryd.underlying64 HI0.out HZ0.out HZ1.out HZ2.out rfl _ 0 [] _ rfl E8.out _ l.length (intsC l) _ rfl (HSLW.out.frm HS.out (fun b hb => HSLW.out.lt b hb) (by simp)) (intsC_one l) (by have := HL1.out; unfold maxLen; omega) (by have := HL1.out; omega) ?_
                intro v11 X29 own11 e11 hf ho
                rw [Nat.zero_add, List.nil_append] at e11
                obtain ⟨ad11, cp11, rfl⟩ := e11.form
                have hs := HS.out.call hf HS.out.size (fun x hx hm => by have := Gb8.out; simp at hm; omega)
                have e13x := E13.out.frm hf (fun b hb => E13.out.lt b hb) (fun b hb hm => by cases hb; have := N813.out; simp at hm; omega)
                have o11 : ∀ b, own11 = some b → w1.heap.size ≤ b := fun b hb => by
                  rcases ho with h | ⟨q, h, hq⟩
                  · rw [h] at hb; cases hb; exact Gb8.out
                  · rw [h] at hb; cases hb; exact Nat.le_trans HSX.out hq
                have n1113 : ∀ b, own11 = some b → b ≠ b13 := fun b hb => by
                  rcases ho with h | ⟨q, h, hq⟩
                  · rw [h] at hb; cases hb; exact N813.out
                  · rw [h] at hb; cases hb; exact Nat.ne_of_gt (Nat.lt_of_lt_of_le L13.out hq)
                clear hf ho HS E13
                have HS := Lib.hid hs
                have E11 := Lib.hid e11
                have E13 := Lib.hid e13x
                have O11 := Lib.hid o11
                have N1113 := Lib.hid n1113
                clear n1113 o11 e13x e11 hs
                refine wpList_nil ?_
                refine ⟨fun _ => HS.out, ?_⟩
                refine LeftL.two 14 16 rfl rfl (by kernel_rfl) ?_ ?_
                · refine wpList_append_both rfl (.tmp 68) (.tmp 70) 64 rfl 3 i0 _ 1 8 Tryd.underlying64 HI0.out HZ0.out HZ1.out HZ2.out rfl _ l.length (intsC l) _ rfl E11.out _ 1 [.int .i64 (k : Int)] _ rfl E13.out (by simp [Value.oneCell']) (by have := HL1.out; unfold maxLen; omega) (by have := HL1.out; omega) ?_
                  intro v14 X30 own14 e14 hf ho
                  obtain ⟨ad14, cp14, rfl⟩ := e14.form
                  have hs := HS.out.call hf HS.out.size (fun x hx hm => by have := O11.out x (by simpa using hm); omega)
                  clear hf ho HS
                  have HS := Lib.hid hs
                  have E14 := Lib.hid e14
                  clear e14 hs
                  refine wpList_nil ?_
                  refine ⟨fun _ => HS.out, ?_⟩
                  first | (refine LeftL.run (v := ?_) 15 rfl (by kernel_rfl) rfl (fun _ _ d _ _ h => by cases d <;> exact h) ?_ HS.out ?_; rotate_left; (· intro V hV; obtain ⟨q0, q1, q2⟩ := HFX.out V hV; clear hV; go_simp; rfl); (intro K' hK'; go_simp; refine hK' _ ?_; clear hK' K')) | (refine LeftL.runG (v := ?_) 15 rfl (by kernel_rfl) rfl (fun _ _ d _ _ h => by cases d <;> exact h) ?_ HS.out ?_; rotate_left; (· intro V hV; obtain ⟨q0, q1, q2⟩ := HFX.out V hV; clear hV; go_simp; rfl); (intro K' hK'; go_simp; refine hK' _ ?_; clear hK' K')) | (refine LeftL.take (v := undef) 15 rfl (by kernel_rfl) (fun _ _ d _ _ h => by cases d <;> exact h) (.inr ⟨rfl, rfl⟩) HS.out ?_; (intro K' hK'; go_simp; refine hK' _ ?_; clear hK' K'))
                  refine LeftL.one 16 rfl (by kernel_rfl) ?_
                  go_wp2_with fail
                  obtain ⟨p16, hp16⟩ : ∃ b, b = X30.heap.size := ⟨_, rfl⟩
                  have e16 : Blk (X30.alloc (Obj.cells #[Value.int .i64 0, Value.int .i64 0, Value.slice none 0 0, Value.bool false] 128)) p16 128 [.int .i64 0, .int .i64 0, .slice none 0 0, .bool false] := by rw [hp16]; exact Blk.new X30 128 [.int .i64 0, .int .i64 0, .slice none 0 0, .bool false]
                  have hs := HS.out.alloc HS.out.size (Obj.cells #[Value.int .i64 0, Value.int .i64 0, Value.slice none 0 0, Value.bool false] 128)
                  have hgep16 : w1.heap.size ≤ p16 := by rw [hp16]; exact HS.out.size
                  have e14x := E14.out.alloc (Obj.cells #[Value.int .i64 0, Value.int .i64 0, Value.slice none 0 0, Value.bool false] 128)
                  have n14 : ∀ b, own14 = some b → b ≠ p16 := fun b hb => by rw [hp16]; exact Nat.ne_of_lt (E14.out.lt b hb)
                  rw [← hp16]
                  generalize X30.alloc (Obj.cells #[Value.int .i64 0, Value.int .i64 0, Value.slice none 0 0, Value.bool false] 128) = X31 at hs e16 e14x ⊢
                  clear HS E14 hp16
                  have HS := Lib.hid hs
                  have E16 := Lib.hid e16
                  have Gp16 := Lib.hid hgep16
                  have E14 := Lib.hid e14x
                  have N14 := Lib.hid n14
                  clear n14 e14x hgep16 e16 hs
                  first | refine ⟨fun _ => HS.out, ?_⟩ | refine ⟨HS.out, ?_⟩
                  refine LeftL.one 17 rfl (by kernel_rfl) ?_
                  refine wpList_storeB (P := Tryd.prog) (ty := 128) (cs := [.int .i64 mx, .int .i64 sx, .slice ad14 (l.length + 1) cp14, .bool false]) rfl rfl E16.out rfl rfl rfl info128 (by simp [Value.oneCell']) ?_
                  refine wpList_nil ?_
                  have hs := HS.out.setRow (g := p16) (.inr Gp16.out) #[.int .i64 mx, .int .i64 sx, .slice ad14 (l.length + 1) cp14, .bool false]
                  have e16y := E16.out.row [.int .i64 mx, .int .i64 sx, .slice ad14 (l.length + 1) cp14, .bool false]
                  have e14y := E14.out.kept (w' := X31.setRow p16 #[.int .i64 mx, .int .i64 sx, .slice ad14 (l.length + 1) cp14, .bool false]) (fun b hb => setRow_other _ _ _ _ (fun h => N14.out b hb h))
                  refine ⟨fun _ => hs, ?_⟩
                  refine LeftL.done (by kernel_rfl) ?_
                  simp only [Act.put]
                  go_wp2_with fail
                  go_meet
                  case rel => exact ⟨p16, ad14, cp14, own14, rfl, Gp16.out, e16y, e14y, hs⟩
                · go_wp2_with fail
                  obtain ⟨p16, hp16⟩ : ∃ b, b = X29.heap.size := ⟨_, rfl⟩
                  have e16 : Blk (X29.alloc (Obj.cells #[Value.int .i64 0, Value.int .i64 0, Value.slice none 0 0, Value.bool false] 128)) p16 128 [.int .i64 0, .int .i64 0, .slice none 0 0, .bool false] := by rw [hp16]; exact Blk.new X29 128 [.int .i64 0, .int .i64 0, .slice none 0 0, .bool false]
                  have hs := HS.out.alloc HS.out.size (Obj.cells #[Value.int .i64 0, Value.int .i64 0, Value.slice none 0 0, Value.bool false] 128)
                  have hgep16 : w1.heap.size ≤ p16 := by rw [hp16]; exact HS.out.size
                  have e13x := E13.out.alloc (Obj.cells #[Value.int .i64 0, Value.int .i64 0, Value.slice none 0 0, Value.bool false] 128)
                  have e11x := E11.out.alloc (Obj.cells #[Value.int .i64 0, Value.int .i64 0, Value.slice none 0 0, Value.bool false] 128)
                  have n1116 : ∀ b, own11 = some b → b ≠ p16 := fun b hb => by rw [hp16]; exact Nat.ne_of_lt (E11.out.lt b hb)
                  rw [← hp16]
                  generalize X29.alloc (Obj.cells #[Value.int .i64 0, Value.int .i64 0, Value.slice none 0 0, Value.bool false] 128) = X32 at hs e16 e13x e11x ⊢
                  clear HS E13 E11 hp16
                  have HS := Lib.hid hs
                  have E16 := Lib.hid e16
                  have Gp16 := Lib.hid hgep16
                  have E13 := Lib.hid e13x
                  have E11 := Lib.hid e11x
                  have N1116 := Lib.hid n1116
                  clear n1116 e11x e13x hgep16 e16 hs
                  first | refine ⟨fun _ => HS.out, ?_⟩ | refine ⟨HS.out, ?_⟩
                  refine LeftL.one 14 rfl (by kernel_rfl) ?_
                  have HSX := Lib.hid HS.out.size
                  have L16 := Lib.hid E16.out.lt
                  refine wpList_append_both rfl (.tmp 68) (.tmp 70) 64 rfl 3 i0 _ 1 8 Tryd.underlying64 HI0.out HZ0.out HZ1.out HZ2.out rfl _ l.length (intsC l) _ rfl E11.out _ 1 [.int .i64 (k : Int)] _ rfl E13.out (by simp [Value.oneCell']) (by have := HL1.out; unfold maxLen; omega) (by have := HL1.out; omega) ?_
                  intro v14 X33 own14 e14 hf ho
                  obtain ⟨ad14, cp14, rfl⟩ := e14.form
                  have hs := HS.out.call hf HS.out.size (fun x hx hm => by have := O11.out x (by simpa using hm); omega)
                  have n14 : ∀ b, own14 = some b → b ≠ p16 := fun b hb => by
                    rcases ho with h | ⟨q, h, hq⟩
                    · exact N1116.out b (by rw [← h]; exact hb)
                    · rw [h] at hb; cases hb; exact Nat.ne_of_gt (Nat.lt_of_lt_of_le L16.out hq)
                  have e16x := hf.blk E16.out E16.out.lt (fun hm => by have := N1116.out p16 (by simpa using hm); exact this rfl)
                  clear hf ho HS E16
                  have HS := Lib.hid hs
                  have E14 := Lib.hid e14
                  have N14 := Lib.hid n14
                  have E16 := Lib.hid e16x
                  clear e16x n14 e14 hs
                  refine wpList_nil ?_
                  refine ⟨fun _ => HS.out, ?_⟩
                  first | (refine LeftL.run (v := ?_) 15 rfl (by kernel_rfl) rfl (fun _ _ d _ _ h => by cases d <;> exact h) ?_ HS.out ?_; rotate_left; (· intro V hV; obtain ⟨q0, q1, q2⟩ := HFX.out V hV; clear hV; go_simp; rfl); (intro K' hK'; go_simp; refine hK' _ ?_; clear hK' K')) | (refine LeftL.runG (v := ?_) 15 rfl (by kernel_rfl) rfl (fun _ _ d _ _ h => by cases d <;> exact h) ?_ HS.out ?_; rotate_left; (· intro V hV; obtain ⟨q0, q1, q2⟩ := HFX.out V hV; clear hV; go_simp; rfl); (intro K' hK'; go_simp; refine hK' _ ?_; clear hK' K')) | (refine LeftL.take (v := undef) 15 rfl (by kernel_rfl) (fun _ _ d _ _ h => by cases d <;> exact h) (.inr ⟨rfl, rfl⟩) HS.out ?_; (intro K' hK'; go_simp; refine hK' _ ?_; clear hK' K'))
                  refine LeftL.one 17 rfl (by kernel_rfl) ?_
                  refine wpList_storeB (P := Tryd.prog) (ty := 128) (cs := [.int .i64 mx, .int .i64 sx, .slice ad14 (l.length + 1) cp14, .bool false]) rfl rfl E16.out rfl rfl rfl info128 (by simp [Value.oneCell']) ?_
                  refine wpList_nil ?_
                  have hs := HS.out.setRow (g := p16) (.inr Gp16.out) #[.int .i64 mx, .int .i64 sx, .slice ad14 (l.length + 1) cp14, .bool false]
                  have e16y := E16.out.row [.int .i64 mx, .int .i64 sx, .slice ad14 (l.length + 1) cp14, .bool false]
                  have e14y := E14.out.kept (w' := X33.setRow p16 #[.int .i64 mx, .int .i64 sx, .slice ad14 (l.length + 1) cp14, .bool false]) (fun b hb => setRow_other _ _ _ _ (fun h => N14.out b hb h))
                  refine ⟨fun _ => hs, ?_⟩
                  refine LeftL.done (by kernel_rfl) ?_
                  simp only [Act.put]
                  go_wp2_with fail
                  go_meet
                  case rel => exact ⟨p16, ad14, cp14, own14, rfl, Gp16.out, e16y, e14y, hs⟩
              · go_wp2_with fail
                obtain ⟨p16, hp16⟩ : ∃ b, b = X28.heap.size := ⟨_, rfl⟩
                have e16 : Blk (X28.alloc (Obj.cells #[Value.int .i64 0, Value.int .i64 0, Value.slice none 0 0, Value.bool false] 128)) p16 128 [.int .i64 0, .int .i64 0, .slice none 0 0, .bool false] := by rw [hp16]; exact Blk.new X28 128 [.int .i64 0, .int .i64 0, .slice none 0 0, .bool false]
                have hs := HS.out.alloc HS.out.size (Obj.cells #[Value.int .i64 0, Value.int .i64 0, Value.slice none 0 0, Value.bool false] 128)
                have hgep16 : w1.heap.size ≤ p16 := by rw [hp16]; exact HS.out.size
                have e8x := E8.out.alloc (Obj.cells #[Value.int .i64 0, Value.int .i64 0, Value.slice none 0 0, Value.bool false] 128)
                have e13x := E13.out.alloc (Obj.cells #[Value.int .i64 0, Value.int .i64 0, Value.slice none 0 0, Value.bool false] 128)
                have n816 : b8 ≠ p16 := by rw [hp16]; exact Nat.ne_of_lt (E8.out.lt b8 rfl)
                rw [← hp16]
                generalize X28.alloc (Obj.cells #[Value.int .i64 0, Value.int .i64 0, Value.slice none 0 0, Value.bool false] 128) = X34 at hs e16 e8x e13x ⊢
                clear HS E8 E13 hp16
                have HS := Lib.hid hs
                have E16 := Lib.hid e16
                have Gp16 := Lib.hid hgep16
                have E8 := Lib.hid e8x
                have E13 := Lib.hid e13x
                have N816 := Lib.hid n816
                clear n816 e13x e8x hgep16 e16 hs
                first | refine ⟨fun _ => HS.out, ?_⟩ | refine ⟨HS.out, ?_⟩
                refine LeftL.one 11 rfl (by kernel_rfl) ?_
                have HSX := Lib.hid HS.out.size
                have L13 := Lib.hid (E13.out.lt b13 rfl)
                have L16 := Lib.hid E16.out.lt
                refine wpList_append_both rfl (.tmp 65) (.tmp 67) 64 rfl 3 i0 _ 1 8 Tryd.underlying64 HI0.out HZ0.out HZ1.out HZ2.out rfl _ 0 [] _ rfl E8.out _ l.length (intsC l) _ rfl (HSLW.out.frm HS.out (fun b hb => HSLW.out.lt b hb) (by simp)) (intsC_one l) (by have := HL1.out; unfold maxLen; omega) (by have := HL1.out; omega) ?_
                intro v11 X35 own11 e11 hf ho
                rw [Nat.zero_add, List.nil_append] at e11
                obtain ⟨ad11, cp11, rfl⟩ := e11.form
                have hs := HS.out.call hf HS.out.size (fun x hx hm => by have := Gb8.out; simp at hm; omega)
                have e13x := E13.out.frm hf (fun b hb => E13.out.lt b hb) (fun b hb hm => by cases hb; have := N813.out; simp at hm; omega)
                have e16x := hf.blk E16.out E16.out.lt (fun hm => by have := N816.out; simp at hm; omega)
                have o11 : ∀ b, own11 = some b → w1.heap.size ≤ b := fun b hb => by
                  rcases ho with h | ⟨q, h, hq⟩
                  · rw [h] at hb; cases hb; exact Gb8.out
                  · rw [h] at hb; cases hb; exact Nat.le_trans HSX.out hq
                have n1113 : ∀ b, own11 = some b → b ≠ b13 := fun b hb => by
                  rcases ho with h | ⟨q, h, hq⟩
                  · rw [h] at hb; cases hb; exact N813.out
                  · rw [h] at hb; cases hb; exact Nat.ne_of_gt (Nat.lt_of_lt_of_le L13.out hq)
                have n1116 : ∀ b, own11 = some b → b ≠ p16 := fun b hb => by
                  rcases ho with h | ⟨q, h, hq⟩
                  · rw [h] at hb; cases hb; exact N816.out
                  · rw [h] at hb; cases hb; exact Nat.ne_of_gt (Nat.lt_of_lt_of_le L16.out hq)
                clear hf ho HS E13 E16
                have HS := Lib.hid hs
                have E11 := Lib.hid e11
                have E13 := Lib.hid e13x
                have E16 := Lib.hid e16x
                have O11 := Lib.hid o11
                have N1113 := Lib.hid n1113
                have N1116 := Lib.hid n1116
                clear n1116 n1113 o11 e16x e13x e11 hs
                refine wpList_nil ?_
                refine ⟨fun _ => HS.out, ?_⟩
                refine LeftL.one 14 rfl (by kernel_rfl) ?_
                have HSX := Lib.hid HS.out.size
                have L16 := Lib.hid E16.out.lt
                refine wpList_append_both rfl (.tmp 68) (.tmp 70) 64 rfl 3 i0 _ 1 8 Tryd.underlying64 HI0.out HZ0.out HZ1.out HZ2.out rfl _ l.length (intsC l) _ rfl E11.out _ 1 [.int .i64 (k : Int)] _ rfl E13.out (by simp [Value.oneCell']) (by have := HL1.out; unfold maxLen; omega) (by have := HL1.out; omega) ?_
                intro v14 X36 own14 e14 hf ho
                obtain ⟨ad14, cp14, rfl⟩ := e14.form
                have hs := HS.out.call hf HS.out.size (fun x hx hm => by have := O11.out x (by simpa using hm); omega)
                have n14 : ∀ b, own14 = some b → b ≠ p16 := fun b hb => by
                  rcases ho with h | ⟨q, h, hq⟩
                  · exact N1116.out b (by rw [← h]; exact hb)
                  · rw [h] at hb; cases hb; exact Nat.ne_of_gt (Nat.lt_of_lt_of_le L16.out hq)
                have e16x := hf.blk E16.out E16.out.lt (fun hm => by have := N1116.out p16 (by simpa using hm); exact this rfl)
                clear hf ho HS E16
                have HS := Lib.hid hs
                have E14 := Lib.hid e14
                have N14 := Lib.hid n14
                have E16 := Lib.hid e16x
                clear e16x n14 e14 hs
                refine wpList_nil ?_
                refine ⟨fun _ => HS.out, ?_⟩
                first | (refine LeftL.run (v := ?_) 15 rfl (by kernel_rfl) rfl (fun _ _ d _ _ h => by cases d <;> exact h) ?_ HS.out ?_; rotate_left; (· intro V hV; obtain ⟨q0, q1, q2⟩ := HFX.out V hV; clear hV; go_simp; rfl); (intro K' hK'; go_simp; refine hK' _ ?_; clear hK' K')) | (refine LeftL.runG (v := ?_) 15 rfl (by kernel_rfl) rfl (fun _ _ d _ _ h => by cases d <;> exact h) ?_ HS.out ?_; rotate_left; (· intro V hV; obtain ⟨q0, q1, q2⟩ := HFX.out V hV; clear hV; go_simp; rfl); (intro K' hK'; go_simp; refine hK' _ ?_; clear hK' K')) | (refine LeftL.take (v := undef) 15 rfl (by kernel_rfl) (fun _ _ d _ _ h => by cases d <;> exact h) (.inr ⟨rfl, rfl⟩) HS.out ?_; (intro K' hK'; go_simp; refine hK' _ ?_; clear hK' K'))
                refine LeftL.one 17 rfl (by kernel_rfl) ?_
                refine wpList_storeB (P := Tryd.prog) (ty := 128) (cs := [.int .i64 mx, .int .i64 sx, .slice ad14 (l.length + 1) cp14, .bool false]) rfl rfl E16.out rfl rfl rfl info128 (by simp [Value.oneCell']) ?_
                refine wpList_nil ?_
                have hs := HS.out.setRow (g := p16) (.inr Gp16.out) #[.int .i64 mx, .int .i64 sx, .slice ad14 (l.length + 1) cp14, .bool false]
                have e16y := E16.out.row [.int .i64 mx, .int .i64 sx, .slice ad14 (l.length + 1) cp14, .bool false]
                have e14y := E14.out.kept (w' := X36.setRow p16 #[.int .i64 mx, .int .i64 sx, .slice ad14 (l.length + 1) cp14, .bool false]) (fun b hb => setRow_other _ _ _ _ (fun h => N14.out b hb h))
                refine ⟨fun _ => hs, ?_⟩
                refine LeftL.done (by kernel_rfl) ?_
                simp only [Act.put]
                go_wp2_with fail
                go_meet
                case rel => exact ⟨p16, ad14, cp14, own14, rfl, Gp16.out, e16y, e14y, hs⟩
            · go_wp2_with fail
              obtain ⟨p16, hp16⟩ : ∃ b, b = X27.heap.size := ⟨_, rfl⟩
              have e16 : Blk (X27.alloc (Obj.cells #[Value.int .i64 0, Value.int .i64 0, Value.slice none 0 0, Value.bool false] 128)) p16 128 [.int .i64 0, .int .i64 0, .slice none 0 0, .bool false] := by rw [hp16]; exact Blk.new X27 128 [.int .i64 0, .int .i64 0, .slice none 0 0, .bool false]
              have hs := HS.out.alloc HS.out.size (Obj.cells #[Value.int .i64 0, Value.int .i64 0, Value.slice none 0 0, Value.bool false] 128)
              have hgep16 : w1.heap.size ≤ p16 := by rw [hp16]; exact HS.out.size
              have e13x := E13.out.alloc (Obj.cells #[Value.int .i64 0, Value.int .i64 0, Value.slice none 0 0, Value.bool false] 128)
              rw [← hp16]
              generalize X27.alloc (Obj.cells #[Value.int .i64 0, Value.int .i64 0, Value.slice none 0 0, Value.bool false] 128) = X37 at hs e16 e13x ⊢
              clear HS E13 hp16
              have HS := Lib.hid hs
              have E16 := Lib.hid e16
              have Gp16 := Lib.hid hgep16
              have E13 := Lib.hid e13x
              clear e13x hgep16 e16 hs
              first | refine ⟨fun _ => HS.out, ?_⟩ | refine ⟨HS.out, ?_⟩
              refine LeftL.one 8 rfl (by kernel_rfl) ?_
              go_wp2_with fail
              obtain ⟨b8, hb8⟩ : ∃ b, b = X37.heap.size := ⟨_, rfl⟩
              have e8 : Sl (X37.alloc (Obj.cells #[] 3)) 3 1 (.slice (some ⟨b8, 0, none⟩) 0 0) 0 [] (some b8) := by rw [hb8]; exact ⟨rfl, .inr ⟨X37.heap.size, 0, 0, _, rfl, rfl, heap_alloc_new X37 _, Nat.le_refl _, Nat.zero_le _, by simp, by simp⟩⟩
              have hs := HS.out.alloc HS.out.size (Obj.cells #[] 3)
              have hgeb8 : w1.heap.size ≤ b8 := by rw [hb8]; exact HS.out.size
              have e13x := E13.out.alloc (Obj.cells #[] 3)
              have e16x := E16.out.alloc (Obj.cells #[] 3)
              have n813 : b8 ≠ b13 := by rw [hb8]; exact Nat.ne_of_gt (E13.out.lt b13 rfl)
              have n816 : b8 ≠ p16 := by rw [hb8]; exact Nat.ne_of_gt E16.out.lt
              rw [← hb8]
              generalize X37.alloc (Obj.cells #[] 3) = X38 at hs e8 e13x e16x ⊢
              clear HS E13 E16 hb8
              have HS := Lib.hid hs
              have E8 := Lib.hid e8
              have Gb8 := Lib.hid hgeb8
              have E13 := Lib.hid e13x
              have E16 := Lib.hid e16x
              have N813 := Lib.hid n813
              have N816 := Lib.hid n816
              clear n816 n813 e16x e13x hgeb8 e8 hs
              first | refine ⟨fun _ => HS.out, ?_⟩ | refine ⟨HS.out, ?_⟩
              refine LeftL.one 11 rfl (by kernel_rfl) ?_
              have HSX := Lib.hid HS.out.size
              have L13 := Lib.hid (E13.out.lt b13 rfl)
              have L16 := Lib.hid E16.out.lt
              refine wpList_append_both rfl (.tmp 65) (.tmp 67) 64 rfl 3 i0 _ 1 8 Tryd.underlying64 HI0.out HZ0.out HZ1.out HZ2.out rfl _ 0 [] _ rfl E8.out _ l.length (intsC l) _ rfl (HSLW.out.frm HS.out (fun b hb => HSLW.out.lt b hb) (by simp)) (intsC_one l) (by have := HL1.out; unfold maxLen; omega) (by have := HL1.out; omega) ?_
              intro v11 X39 own11 e11 hf ho
              rw [Nat.zero_add, List.nil_append] at e11
              obtain ⟨ad11, cp11, rfl⟩ := e11.form
              have hs := HS.out.call hf HS.out.size (fun x hx hm => by have := Gb8.out; simp at hm; omega)
              have e13x := E13.out.frm hf (fun b hb => E13.out.lt b hb) (fun b hb hm => by cases hb; have := N813.out; simp at hm; omega)
              have e16x := hf.blk E16.out E16.out.lt (fun hm => by have := N816.out; simp at hm; omega)
              have o11 : ∀ b, own11 = some b → w1.heap.size ≤ b := fun b hb => by
                rcases ho with h | ⟨q, h, hq⟩
                · rw [h] at hb; cases hb; exact Gb8.out
                · rw [h] at hb; cases hb; exact Nat.le_trans HSX.out hq
              have n1113 : ∀ b, own11 = some b → b ≠ b13 := fun b hb => by
                rcases ho with h | ⟨q, h, hq⟩
                · rw [h] at hb; cases hb; exact N813.out
                · rw [h] at hb; cases hb; exact Nat.ne_of_gt (Nat.lt_of_lt_of_le L13.out hq)
              have n1116 : ∀ b, own11 = some b → b ≠ p16 := fun b hb => by
                rcases ho with h | ⟨q, h, hq⟩
                · rw [h] at hb; cases hb; exact N816.out
                · rw [h] at hb; cases hb; exact Nat.ne_of_gt (Nat.lt_of_lt_of_le L16.out hq)
              clear hf ho HS E13 E16
              have HS := Lib.hid hs
              have E11 := Lib.hid e11
              have E13 := Lib.hid e13x
              have E16 := Lib.hid e16x
              have O11 := Lib.hid o11
              have N1113 := Lib.hid n1113
              have N1116 := Lib.hid n1116
              clear n1116 n1113 o11 e16x e13x e11 hs
              refine wpList_nil ?_
              refine ⟨fun _ => HS.out, ?_⟩
              refine LeftL.one 14 rfl (by kernel_rfl) ?_
              have HSX := Lib.hid HS.out.size
              have L16 := Lib.hid E16.out.lt
              refine wpList_append_both rfl (.tmp 68) (.tmp 70) 64 rfl 3 i0 _ 1 8 Tryd.underlying64 HI0.out HZ0.out HZ1.out HZ2.out rfl _ l.length (intsC l) _ rfl E11.out _ 1 [.int .i64 (k : Int)] _ rfl E13.out (by simp [Value.oneCell']) (by have := HL1.out; unfold maxLen; omega) (by have := HL1.out; omega) ?_
              intro v14 X40 own14 e14 hf ho
              obtain ⟨ad14, cp14, rfl⟩ := e14.form
              have hs := HS.out.call hf HS.out.size (fun x hx hm => by have := O11.out x (by simpa using hm); omega)
              have n14 : ∀ b, own14 = some b → b ≠ p16 := fun b hb => by
                rcases ho with h | ⟨q, h, hq⟩
                · exact N1116.out b (by rw [← h]; exact hb)
                · rw [h] at hb; cases hb; exact Nat.ne_of_gt (Nat.lt_of_lt_of_le L16.out hq)
              have e16x := hf.blk E16.out E16.out.lt (fun hm => by have := N1116.out p16 (by simpa using hm); exact this rfl)
              clear hf ho HS E16
              have HS := Lib.hid hs
              have E14 := Lib.hid e14
              have N14 := Lib.hid n14
              have E16 := Lib.hid e16x
              clear e16x n14 e14 hs
              refine wpList_nil ?_
              refine ⟨fun _ => HS.out, ?_⟩
              first | (refine LeftL.run (v := ?_) 15 rfl (by kernel_rfl) rfl (fun _ _ d _ _ h => by cases d <;> exact h) ?_ HS.out ?_; rotate_left; (· intro V hV; obtain ⟨q0, q1, q2⟩ := HFX.out V hV; clear hV; go_simp; rfl); (intro K' hK'; go_simp; refine hK' _ ?_; clear hK' K')) | (refine LeftL.runG (v := ?_) 15 rfl (by kernel_rfl) rfl (fun _ _ d _ _ h => by cases d <;> exact h) ?_ HS.out ?_; rotate_left; (· intro V hV; obtain ⟨q0, q1, q2⟩ := HFX.out V hV; clear hV; go_simp; rfl); (intro K' hK'; go_simp; refine hK' _ ?_; clear hK' K')) | (refine LeftL.take (v := undef) 15 rfl (by kernel_rfl) (fun _ _ d _ _ h => by cases d <;> exact h) (.inr ⟨rfl, rfl⟩) HS.out ?_; (intro K' hK'; go_simp; refine hK' _ ?_; clear hK' K'))
              refine LeftL.one 17 rfl (by kernel_rfl) ?_
              refine wpList_storeB (P := Tryd.prog) (ty := 128) (cs := [.int .i64 mx, .int .i64 sx, .slice ad14 (l.length + 1) cp14, .bool false]) rfl rfl E16.out rfl rfl rfl info128 (by simp [Value.oneCell']) ?_
              refine wpList_nil ?_
              have hs := HS.out.setRow (g := p16) (.inr Gp16.out) #[.int .i64 mx, .int .i64 sx, .slice ad14 (l.length + 1) cp14, .bool false]
              have e16y := E16.out.row [.int .i64 mx, .int .i64 sx, .slice ad14 (l.length + 1) cp14, .bool false]
              have e14y := E14.out.kept (w' := X40.setRow p16 #[.int .i64 mx, .int .i64 sx, .slice ad14 (l.length + 1) cp14, .bool false]) (fun b hb => setRow_other _ _ _ _ (fun h => N14.out b hb h))
              refine ⟨fun _ => hs, ?_⟩
              refine LeftL.done (by kernel_rfl) ?_
              simp only [Act.put]
              go_wp2_with fail
              go_meet
              case rel => exact ⟨p16, ad14, cp14, own14, rfl, Gp16.out, e16y, e14y, hs⟩
          · go_wp2_with fail
            obtain ⟨p16, hp16⟩ : ∃ b, b = X0.heap.size := ⟨_, rfl⟩
            have e16 : Blk (X0.alloc (Obj.cells #[Value.int .i64 0, Value.int .i64 0, Value.slice none 0 0, Value.bool false] 128)) p16 128 [.int .i64 0, .int .i64 0, .slice none 0 0, .bool false] := by rw [hp16]; exact Blk.new X0 128 [.int .i64 0, .int .i64 0, .slice none 0 0, .bool false]
            have hs := HS.out.alloc HS.out.size (Obj.cells #[Value.int .i64 0, Value.int .i64 0, Value.slice none 0 0, Value.bool false] 128)
            have hgep16 : w1.heap.size ≤ p16 := by rw [hp16]; exact HS.out.size
            rw [← hp16]
            generalize X0.alloc (Obj.cells #[Value.int .i64 0, Value.int .i64 0, Value.slice none 0 0, Value.bool false] 128) = X41 at hs e16 ⊢
            clear HS hp16
            have HS := Lib.hid hs
            have E16 := Lib.hid e16
            have Gp16 := Lib.hid hgep16
            clear hgep16 e16 hs
            first | refine ⟨fun _ => HS.out, ?_⟩ | refine ⟨HS.out, ?_⟩
            refine LeftL.two 8 13 rfl rfl (by kernel_rfl) ?_ ?_
            · go_wp2_with fail
              obtain ⟨b8, hb8⟩ : ∃ b, b = X41.heap.size := ⟨_, rfl⟩
              have e8 : Sl (X41.alloc (Obj.cells #[] 3)) 3 1 (.slice (some ⟨b8, 0, none⟩) 0 0) 0 [] (some b8) := by rw [hb8]; exact ⟨rfl, .inr ⟨X41.heap.size, 0, 0, _, rfl, rfl, heap_alloc_new X41 _, Nat.le_refl _, Nat.zero_le _, by simp, by simp⟩⟩
              have hs := HS.out.alloc HS.out.size (Obj.cells #[] 3)
              have hgeb8 : w1.heap.size ≤ b8 := by rw [hb8]; exact HS.out.size
              have e16x := E16.out.alloc (Obj.cells #[] 3)
              have n816 : b8 ≠ p16 := by rw [hb8]; exact Nat.ne_of_gt E16.out.lt
              rw [← hb8]
              generalize X41.alloc (Obj.cells #[] 3) = X42 at hs e8 e16x ⊢
              clear HS E16 hb8
              have HS := Lib.hid hs
              have E8 := Lib.hid e8
              have Gb8 := Lib.hid hgeb8
              have E16 := Lib.hid e16x
              have N816 := Lib.hid n816
              clear n816 e16x hgeb8 e8 hs
              first | refine ⟨fun _ => HS.out, ?_⟩ | refine ⟨HS.out, ?_⟩
              refine LeftL.two 11 13 rfl rfl (by kernel_rfl) ?_ ?_
              · have HSX := Lib.hid HS.out.size
                have L16 := Lib.hid E16.out.lt
                refine wpList_append_both rfl (.tmp 65) (.tmp 67) 64 rfl 3 i0 _ 1 8 Tryd.underlying64 HI0.out HZ0.out HZ1.out HZ2.out rfl _ 0 [] _ rfl E8.out _ l.length (intsC l) _ rfl (HSLW.out.frm HS.out (fun b hb => HSLW.out.lt b hb) (by simp)) (intsC_one l) (by have := HL1.out; unfold maxLen; omega) (by have := HL1.out; omega) ?_
                intro v11 X43 own11 e11 hf ho
                rw [Nat.zero_add, List.nil_append] at e11
                obtain ⟨ad11, cp11, rfl⟩ := e11.form
                have hs := HS.out.call hf HS.out.size (fun x hx hm => by have := Gb8.out; simp at hm; omega)
                have e16x := hf.blk E16.out E16.out.lt (fun hm => by have := N816.out; simp at hm; omega)
                have o11 : ∀ b, own11 = some b → w1.heap.size ≤ b := fun b hb => by
                  rcases ho with h | ⟨q, h, hq⟩
                  · rw [h] at hb; cases hb; exact Gb8.out
                  · rw [h] at hb; cases hb; exact Nat.le_trans HSX.out hq
                have n1116 : ∀ b, own11 = some b → b ≠ p16 := fun b hb => by
                  rcases ho with h | ⟨q, h, hq⟩
                  · rw [h] at hb; cases hb; exact N816.out
                  · rw [h] at hb; cases hb; exact Nat.ne_of_gt (Nat.lt_of_lt_of_le L16.out hq)
                clear hf ho HS E16
                have HS := Lib.hid hs
                have E11 := Lib.hid e11
                have E16 := Lib.hid e16x
                have O11 := Lib.hid o11
                have N1116 := Lib.hid n1116
                clear n1116 o11 e16x e11 hs
                refine wpList_nil ?_
                refine ⟨fun _ => HS.out, ?_⟩
                refine LeftL.one 13 rfl (by kernel_rfl) ?_
                go_wp2_with fail
                obtain ⟨b13, hb13⟩ : ∃ b, b = X43.heap.size := ⟨_, rfl⟩
                have e13 : Sl (X43.alloc (Obj.cells #[Value.int .i64 (k : Int)] 3)) 3 1 (.slice (some ⟨b13, 0, none⟩) 1 1) 1 [.int .i64 (k : Int)] (some b13) := by rw [hb13]; exact ⟨rfl, .inr ⟨X43.heap.size, 0, 1, _, rfl, rfl, heap_alloc_new X43 _, Nat.le_refl _, by decide, by simp, by simp⟩⟩
                have hs := HS.out.alloc HS.out.size (Obj.cells #[Value.int .i64 (k : Int)] 3)
                have hgeb13 : w1.heap.size ≤ b13 := by rw [hb13]; exact HS.out.size
                have e11x := E11.out.alloc (Obj.cells #[Value.int .i64 (k : Int)] 3)
                have e16x := E16.out.alloc (Obj.cells #[Value.int .i64 (k : Int)] 3)
                have n1113 : ∀ b, own11 = some b → b ≠ b13 := fun b hb => by rw [hb13]; exact Nat.ne_of_lt (E11.out.lt b hb)
                rw [← hb13]
                generalize X43.alloc (Obj.cells #[Value.int .i64 (k : Int)] 3) = X44 at hs e13 e11x e16x ⊢
                clear HS E11 E16 hb13
                have HS := Lib.hid hs
                have E13 := Lib.hid e13
                have Gb13 := Lib.hid hgeb13
                have E11 := Lib.hid e11x
                have E16 := Lib.hid e16x
                have N1113 := Lib.hid n1113
                clear n1113 e16x e11x hgeb13 e13 hs
                first | refine ⟨fun _ => HS.out, ?_⟩ | refine ⟨HS.out, ?_⟩
                refine LeftL.one 14 rfl (by kernel_rfl) ?_
                have HSX := Lib.hid HS.out.size
                have L16 := Lib.hid E16.out.lt
                refine wpList_append_both rfl (.tmp 68) (.tmp 70) 64 rfl 3 i0 _ 1 8 Tryd.underlying64 HI0.out HZ0.out HZ1.out HZ2.out rfl _ l.length (intsC l) _ rfl E11.out _ 1 [.int .i64 (k : Int)] _ rfl E13.out (by simp [Value.oneCell']) (by have := HL1.out; unfold maxLen; omega) (by have := HL1.out; omega) ?_
                intro v14 X45 own14 e14 hf ho
                obtain ⟨ad14, cp14, rfl⟩ := e14.form
                have hs := HS.out.call hf HS.out.size (fun x hx hm => by have := O11.out x (by simpa using hm); omega)
                have n14 : ∀ b, own14 = some b → b ≠ p16 := fun b hb => by
                  rcases ho with h | ⟨q, h, hq⟩
                  · exact N1116.out b (by rw [← h]; exact hb)
                  · rw [h] at hb; cases hb; exact Nat.ne_of_gt (Nat.lt_of_lt_of_le L16.out hq)
                have e16x := hf.blk E16.out E16.out.lt (fun hm => by have := N1116.out p16 (by simpa using hm); exact this rfl)
                clear hf ho HS E16
                have HS := Lib.hid hs
                have E14 := Lib.hid e14
                have N14 := Lib.hid n14
                have E16 := Lib.hid e16x
                clear e16x n14 e14 hs
                refine wpList_nil ?_
                refine ⟨fun _ => HS.out, ?_⟩
                first | (refine LeftL.run (v := ?_) 15 rfl (by kernel_rfl) rfl (fun _ _ d _ _ h => by cases d <;> exact h) ?_ HS.out ?_; rotate_left; (· intro V hV; obtain ⟨q0, q1, q2⟩ := HFX.out V hV; clear hV; go_simp; rfl); (intro K' hK'; go_simp; refine hK' _ ?_; clear hK' K')) | (refine LeftL.runG (v := ?_) 15 rfl (by kernel_rfl) rfl (fun _ _ d _ _ h => by cases d <;> exact h) ?_ HS.out ?_; rotate_left; (· intro V hV; obtain ⟨q0, q1, q2⟩ := HFX.out V hV; clear hV; go_simp; rfl); (intro K' hK'; go_simp; refine hK' _ ?_; clear hK' K')) | (refine LeftL.take (v := undef) 15 rfl (by kernel_rfl) (fun _ _ d _ _ h => by cases d <;> exact h) (.inr ⟨rfl, rfl⟩) HS.out ?_; (intro K' hK'; go_simp; refine hK' _ ?_; clear hK' K'))
                refine LeftL.one 17 rfl (by kernel_rfl) ?_
                refine wpList_storeB (P := Tryd.prog) (ty := 128) (cs := [.int .i64 mx, .int .i64 sx, .slice ad14 (l.length + 1) cp14, .bool false]) rfl rfl E16.out rfl rfl rfl info128 (by simp [Value.oneCell']) ?_
                refine wpList_nil ?_
                have hs := HS.out.setRow (g := p16) (.inr Gp16.out) #[.int .i64 mx, .int .i64 sx, .slice ad14 (l.length + 1) cp14, .bool false]
                have e16y := E16.out.row [.int .i64 mx, .int .i64 sx, .slice ad14 (l.length + 1) cp14, .bool false]
                have e14y := E14.out.kept (w' := X45.setRow p16 #[.int .i64 mx, .int .i64 sx, .slice ad14 (l.length + 1) cp14, .bool false]) (fun b hb => setRow_other _ _ _ _ (fun h => N14.out b hb h))
                refine ⟨fun _ => hs, ?_⟩
                refine LeftL.done (by kernel_rfl) ?_
                simp only [Act.put]
                go_wp2_with fail
                go_meet
                case rel => exact ⟨p16, ad14, cp14, own14, rfl, Gp16.out, e16y, e14y, hs⟩
              · go_wp2_with fail
                obtain ⟨b13, hb13⟩ : ∃ b, b = X42.heap.size := ⟨_, rfl⟩
                have e13 : Sl (X42.alloc (Obj.cells #[Value.int .i64 (k : Int)] 3)) 3 1 (.slice (some ⟨b13, 0, none⟩) 1 1) 1 [.int .i64 (k : Int)] (some b13) := by rw [hb13]; exact ⟨rfl, .inr ⟨X42.heap.size, 0, 1, _, rfl, rfl, heap_alloc_new X42 _, Nat.le_refl _, by decide, by simp, by simp⟩⟩
                have hs := HS.out.alloc HS.out.size (Obj.cells #[Value.int .i64 (k : Int)] 3)
                have hgeb13 : w1.heap.size ≤ b13 := by rw [hb13]; exact HS.out.size
                have e8x := E8.out.alloc (Obj.cells #[Value.int .i64 (k : Int)] 3)
                have e16x := E16.out.alloc (Obj.cells #[Value.int .i64 (k : Int)] 3)
                have n813 : b8 ≠ b13 := by rw [hb13]; exact Nat.ne_of_lt (E8.out.lt b8 rfl)
                rw [← hb13]
                generalize X42.alloc (Obj.cells #[Value.int .i64 (k : Int)] 3) = X46 at hs e13 e8x e16x ⊢
                clear HS E8 E16 hb13
                have HS := Lib.hid hs
                have E13 := Lib.hid e13
                have Gb13 := Lib.hid hgeb13
                have E8 := Lib.hid e8x
                have E16 := Lib.hid e16x
                have N813 := Lib.hid n813
                clear n813 e16x e8x hgeb13 e13 hs
                first | refine ⟨fun _ => HS.out, ?_⟩ | refine ⟨HS.out, ?_⟩
                refine LeftL.one 11 rfl (by kernel_rfl) ?_
                have HSX := Lib.hid HS.out.size
                have L13 := Lib.hid (E13.out.lt b13 rfl)
                have L16 := Lib.hid E16.out.lt
                refine wpList_append_both rfl (.tmp 65) (.tmp 67) 64 rfl 3 i0 _ 1 8 Tryd.underlying64 HI0.out HZ0.out HZ1.out HZ2.out rfl _ 0 [] _ rfl E8.out _ l.length (intsC l) _ rfl (HSLW.out.frm HS.out (fun b hb => HSLW.out.lt b hb) (by simp)) (intsC_one l) (by have := HL1.out; unfold maxLen; omega) (by have := HL1.out; omega) ?_
                intro v11 X47 own11 e11 hf ho
                rw [Nat.zero_add, List.nil_append] at e11
                obtain ⟨ad11, cp11, rfl⟩ := e11.form
                have hs := HS.out.call hf HS.out.size (fun x hx hm => by have := Gb8.out; simp at hm; omega)
                have e13x := E13.out.frm hf (fun b hb => E13.out.lt b hb) (fun b hb hm => by cases hb; have := N813.out; simp at hm; omega)
                have e16x := hf.blk E16.out E16.out.lt (fun hm => by have := N816.out; simp at hm; omega)
                have o11 : ∀ b, own11 = some b → w1.heap.size ≤ b := fun b hb => by
                  rcases ho with h | ⟨q, h, hq⟩
                  · rw [h] at hb; cases hb; exact Gb8.out
                  · rw [h] at hb; cases hb; exact Nat.le_trans HSX.out hq
                have n1113 : ∀ b, own11 = some b → b ≠ b13 := fun b hb => by
                  rcases ho with h | ⟨q, h, hq⟩
                  · rw [h] at hb; cases hb; exact N813.out
                  · rw [h] at hb; cases hb; exact Nat.ne_of_gt (Nat.lt_of_lt_of_le L13.out hq)
                have n1116 : ∀ b, own11 = some b → b ≠ p16 := fun b hb => by
                  rcases ho with h | ⟨q, h, hq⟩
                  · rw [h] at hb; cases hb; exact N816.out
                  · rw [h] at hb; cases hb; exact Nat.ne_of_gt (Nat.lt_of_lt_of_le L16.out hq)
                clear hf ho HS E13 E16
                have HS := Lib.hid hs
                have E11 := Lib.hid e11
                have E13 := Lib.hid e13x
                have E16 := Lib.hid e16x
                have O11 := Lib.hid o11
                have N1113 := Lib.hid n1113
                have N1116 := Lib.hid n1116
                clear n1116 n1113 o11 e16x e13x e11 hs
                refine wpList_nil ?_
                refine ⟨fun _ => HS.out, ?_⟩
                refine LeftL.one 14 rfl (by kernel_rfl) ?_
                have HSX := Lib.hid HS.out.size
                have L16 := Lib.hid E16.out.lt
                refine wpList_append_both rfl (.tmp 68) (.tmp 70) 64 rfl 3 i0 _ 1 8 Tryd.underlying64 HI0.out HZ0.out HZ1.out HZ2.out rfl _ l.length (intsC l) _ rfl E11.out _ 1 [.int .i64 (k : Int)] _ rfl E13.out (by simp [Value.oneCell']) (by have := HL1.out; unfold maxLen; omega) (by have := HL1.out; omega) ?_
                intro v14 X48 own14 e14 hf ho
                obtain ⟨ad14, cp14, rfl⟩ := e14.form
                have hs := HS.out.call hf HS.out.size (fun x hx hm => by have := O11.out x (by simpa using hm); omega)
                have n14 : ∀ b, own14 = some b → b ≠ p16 := fun b hb => by
                  rcases ho with h | ⟨q, h, hq⟩
                  · exact N1116.out b (by rw [← h]; exact hb)
                  · rw [h] at hb; cases hb; exact Nat.ne_of_gt (Nat.lt_of_lt_of_le L16.out hq)
                have e16x := hf.blk E16.out E16.out.lt (fun hm => by have := N1116.out p16 (by simpa using hm); exact this rfl)
                clear hf ho HS E16
                have HS := Lib.hid hs
                have E14 := Lib.hid e14
                have N14 := Lib.hid n14
                have E16 := Lib.hid e16x
                clear e16x n14 e14 hs
                refine wpList_nil ?_
                refine ⟨fun _ => HS.out, ?_⟩
                first | (refine LeftL.run (v := ?_) 15 rfl (by kernel_rfl) rfl (fun _ _ d _ _ h => by cases d <;> exact h) ?_ HS.out ?_; rotate_left; (· intro V hV; obtain ⟨q0, q1, q2⟩ := HFX.out V hV; clear hV; go_simp; rfl); (intro K' hK'; go_simp; refine hK' _ ?_; clear hK' K')) | (refine LeftL.runG (v := ?_) 15 rfl (by kernel_rfl) rfl (fun _ _ d _ _ h => by cases d <;> exact h) ?_ HS.out ?_; rotate_left; (· intro V hV; obtain ⟨q0, q1, q2⟩ := HFX.out V hV; clear hV; go_simp; rfl); (intro K' hK'; go_simp; refine hK' _ ?_; clear hK' K')) | (refine LeftL.take (v := undef) 15 rfl (by kernel_rfl) (fun _ _ d _ _ h => by cases d <;> exact h) (.inr ⟨rfl, rfl⟩) HS.out ?_; (intro K' hK'; go_simp; refine hK' _ ?_; clear hK' K'))
                refine LeftL.one 17 rfl (by kernel_rfl) ?_
                refine wpList_storeB (P := Tryd.prog) (ty := 128) (cs := [.int .i64 mx, .int .i64 sx, .slice ad14 (l.length + 1) cp14, .bool false]) rfl rfl E16.out rfl rfl rfl info128 (by simp [Value.oneCell']) ?_
                refine wpList_nil ?_
                have hs := HS.out.setRow (g := p16) (.inr Gp16.out) #[.int .i64 mx, .int .i64 sx, .slice ad14 (l.length + 1) cp14, .bool false]
                have e16y := E16.out.row [.int .i64 mx, .int .i64 sx, .slice ad14 (l.length + 1) cp14, .bool false]
                have e14y := E14.out.kept (w' := X48.setRow p16 #[.int .i64 mx, .int .i64 sx, .slice ad14 (l.length + 1) cp14, .bool false]) (fun b hb => setRow_other _ _ _ _ (fun h => N14.out b hb h))
                refine ⟨fun _ => hs, ?_⟩
                refine LeftL.done (by kernel_rfl) ?_
                simp only [Act.put]
                go_wp2_with fail
                go_meet
                case rel => exact ⟨p16, ad14, cp14, own14, rfl, Gp16.out, e16y, e14y, hs⟩
            · go_wp2_with fail
              obtain ⟨b13, hb13⟩ : ∃ b, b = X41.heap.size := ⟨_, rfl⟩
              have e13 : Sl (X41.alloc (Obj.cells #[Value.int .i64 (k : Int)] 3)) 3 1 (.slice (some ⟨b13, 0, none⟩) 1 1) 1 [.int .i64 (k : Int)] (some b13) := by rw [hb13]; exact ⟨rfl, .inr ⟨X41.heap.size, 0, 1, _, rfl, rfl, heap_alloc_new X41 _, Nat.le_refl _, by decide, by simp, by simp⟩⟩
              have hs := HS.out.alloc HS.out.size (Obj.cells #[Value.int .i64 (k : Int)] 3)
              have hgeb13 : w1.heap.size ≤ b13 := by rw [hb13]; exact HS.out.size
              have e16x := E16.out.alloc (Obj.cells #[Value.int .i64 (k : Int)] 3)
              rw [← hb13]
              generalize X41.alloc (Obj.cells #[Value.int .i64 (k : Int)] 3) = X49 at hs e13 e16x ⊢
              clear HS E16 hb13
              have HS := Lib.hid hs
              have E13 := Lib.hid e13
              have Gb13 := Lib.hid hgeb13
              have E16 := Lib.hid e16x
              clear e16x hgeb13 e13 hs
              first | refine ⟨fun _ => HS.out, ?_⟩ | refine ⟨HS.out, ?_⟩
              refine LeftL.one 8 rfl (by kernel_rfl) ?_
              go_wp2_with fail
              obtain ⟨b8, hb8⟩ : ∃ b, b = X49.heap.size := ⟨_, rfl⟩
              have e8 : Sl (X49.alloc (Obj.cells #[] 3)) 3 1 (.slice (some ⟨b8, 0, none⟩) 0 0) 0 [] (some b8) := by rw [hb8]; exact ⟨rfl, .inr ⟨X49.heap.size, 0, 0, _, rfl, rfl, heap_alloc_new X49 _, Nat.le_refl _, Nat.zero_le _, by simp, by simp⟩⟩
              have hs := HS.out.alloc HS.out.size (Obj.cells #[] 3)
              have hgeb8 : w1.heap.size ≤ b8 := by rw [hb8]; exact HS.out.size
              have e13x := E13.out.alloc (Obj.cells #[] 3)
              have e16x := E16.out.alloc (Obj.cells #[] 3)
              have n813 : b8 ≠ b13 := by rw [hb8]; exact Nat.ne_of_gt (E13.out.lt b13 rfl)
              have n816 : b8 ≠ p16 := by rw [hb8]; exact Nat.ne_of_gt E16.out.lt
              rw [← hb8]
              generalize X49.alloc (Obj.cells #[] 3) = X50 at hs e8 e13x e16x ⊢
              clear HS E13 E16 hb8
              have HS := Lib.hid hs
              have E8 := Lib.hid e8
              have Gb8 := Lib.hid hgeb8
              have E13 := Lib.hid e13x
              have E16 := Lib.hid e16x
              have N813 := Lib.hid n813
              have N816 := Lib.hid n816
              clear n816 n813 e16x e13x hgeb8 e8 hs
              first | refine ⟨fun _ => HS.out, ?_⟩ | refine ⟨HS.out, ?_⟩
              refine LeftL.one 11 rfl (by kernel_rfl) ?_
              have HSX := Lib.hid HS.out.size
              have L13 := Lib.hid (E13.out.lt b13 rfl)
              have L16 := Lib.hid E16.out.lt
              refine wpList_append_both rfl (.tmp 65) (.tmp 67) 64 rfl 3 i0 _ 1 8 Tryd.underlying64 HI0.out HZ0.out HZ1.out HZ2.out rfl _ 0 [] _ rfl E8.out _ l.length (intsC l) _ rfl (HSLW.out.frm HS.out (fun b hb => HSLW.out.lt b hb) (by simp)) (intsC_one l) (by have := HL1.out; unfold maxLen; omega) (by have := HL1.out; omega) ?_
              intro v11 X51 own11 e11 hf ho
              rw [Nat.zero_add, List.nil_append] at e11
              obtain ⟨ad11, cp11, rfl⟩ := e11.form
              have hs := HS.out.call hf HS.out.size (fun x hx hm => by have := Gb8.out; simp at hm; omega)
              have e13x := E13.out.frm hf (fun b hb => E13.out.lt b hb) (fun b hb hm => by cases hb; have := N813.out; simp at hm; omega)
              have e16x := hf.blk E16.out E16.out.lt (fun hm => by have := N816.out; simp at hm; omega)
              have o11 : ∀ b, own11 = some b → w1.heap.size ≤ b := fun b hb => by
                rcases ho with h | ⟨q, h, hq⟩
                · rw [h] at hb; cases hb; exact Gb8.out
                · rw [h] at hb; cases hb; exact Nat.le_trans HSX.out hq
              have n1113 : ∀ b, own11 = some b → b ≠ b13 := fun b hb => by
                rcases ho with h | ⟨q, h, hq⟩
                · rw [h] at hb; cases hb; exact N813.out
                · rw [h] at hb; cases hb; exact Nat.ne_of_gt (Nat.lt_of_lt_of_le L13.out hq)
              have n1116 : ∀ b, own11 = some b → b ≠ p16 := fun b hb => by
                rcases ho with h | ⟨q, h, hq⟩
                · rw [h] at hb; cases hb; exact N816.out
                · rw [h] at hb; cases hb; exact Nat.ne_of_gt (Nat.lt_of_lt_of_le L16.out hq)
              clear hf ho HS E13 E16
              have HS := Lib.hid hs
              have E11 := Lib.hid e11
              have E13 := Lib.hid e13x
              have E16 := Lib.hid e16x
              have O11 := Lib.hid o11
              have N1113 := Lib.hid n1113
              have N1116 := Lib.hid n1116
              clear n1116 n1113 o11 e16x e13x e11 hs
              refine wpList_nil ?_
              refine ⟨fun _ => HS.out, ?_⟩
              refine LeftL.one 14 rfl (by kernel_rfl) ?_
              have HSX := Lib.hid HS.out.size
              have L16 := Lib.hid E16.out.lt
              refine wpList_append_both rfl (.tmp 68) (.tmp 70) 64 rfl 3 i0 _ 1 8 Tryd.underlying64 HI0.out HZ0.out HZ1.out HZ2.out rfl _ l.length (intsC l) _ rfl E11.out _ 1 [.int .i64 (k : Int)] _ rfl E13.out (by simp [Value.oneCell']) (by have := HL1.out; unfold maxLen; omega) (by have := HL1.out; omega) ?_
              intro v14 X52 own14 e14 hf ho
              obtain ⟨ad14, cp14, rfl⟩ := e14.form
              have hs := HS.out.call hf HS.out.size (fun x hx hm => by have := O11.out x (by simpa using hm); omega)
              have n14 : ∀ b, own14 = some b → b ≠ p16 := fun b hb => by
                rcases ho with h | ⟨q, h, hq⟩
                · exact N1116.out b (by rw [← h]; exact hb)
                · rw [h] at hb; cases hb; exact Nat.ne_of_gt (Nat.lt_of_lt_of_le L16.out hq)
              have e16x := hf.blk E16.out E16.out.lt (fun hm => by have := N1116.out p16 (by simpa using hm); exact this rfl)
              clear hf ho HS E16
              have HS := Lib.hid hs
              have E14 := Lib.hid e14
              have N14 := Lib.hid n14
              have E16 := Lib.hid e16x
              clear e16x n14 e14 hs
              refine wpList_nil ?_
              refine ⟨fun _ => HS.out, ?_⟩
              first | (refine LeftL.run (v := ?_) 15 rfl (by kernel_rfl) rfl (fun _ _ d _ _ h => by cases d <;> exact h) ?_ HS.out ?_; rotate_left; (· intro V hV; obtain ⟨q0, q1, q2⟩ := HFX.out V hV; clear hV; go_simp; rfl); (intro K' hK'; go_simp; refine hK' _ ?_; clear hK' K')) | (refine LeftL.runG (v := ?_) 15 rfl (by kernel_rfl) rfl (fun _ _ d _ _ h => by cases d <;> exact h) ?_ HS.out ?_; rotate_left; (· intro V hV; obtain ⟨q0, q1, q2⟩ := HFX.out V hV; clear hV; go_simp; rfl); (intro K' hK'; go_simp; refine hK' _ ?_; clear hK' K')) | (refine LeftL.take (v := undef) 15 rfl (by kernel_rfl) (fun _ _ d _ _ h => by cases d <;> exact h) (.inr ⟨rfl, rfl⟩) HS.out ?_; (intro K' hK'; go_simp; refine hK' _ ?_; clear hK' K'))
              refine LeftL.one 17 rfl (by kernel_rfl) ?_
              refine wpList_storeB (P := Tryd.prog) (ty := 128) (cs := [.int .i64 mx, .int .i64 sx, .slice ad14 (l.length + 1) cp14, .bool false]) rfl rfl E16.out rfl rfl rfl info128 (by simp [Value.oneCell']) ?_
              refine wpList_nil ?_
              have hs := HS.out.setRow (g := p16) (.inr Gp16.out) #[.int .i64 mx, .int .i64 sx, .slice ad14 (l.length + 1) cp14, .bool false]
              have e16y := E16.out.row [.int .i64 mx, .int .i64 sx, .slice ad14 (l.length + 1) cp14, .bool false]
              have e14y := E14.out.kept (w' := X52.setRow p16 #[.int .i64 mx, .int .i64 sx, .slice ad14 (l.length + 1) cp14, .bool false]) (fun b hb => setRow_other _ _ _ _ (fun h => N14.out b hb h))
              refine ⟨fun _ => hs, ?_⟩
              refine LeftL.done (by kernel_rfl) ?_
              simp only [Act.put]
              go_wp2_with fail
              go_meet
              case rel => exact ⟨p16, ad14, cp14, own14, rfl, Gp16.out, e16y, e14y, hs⟩
        obtain ⟨p, ad14, cp14, own14, rfl, hp, hbp, hsn, hfc⟩ := hcut
        have b0 := hfc.blk B0.out B0.out.lt (by simp)
        have b1 := hfc.blk B1.out B1.out.lt (by simp)
        have b2 := hfc.blk B2.out B2.out.lt (by simp)
        have hsk := HSK.out.frm hfc (fun b hb => HSK.out.lt b hb) (by simp)
        have hfr := HFR.out.call hfc HFR.out.size (by simp)
        have hcks : [Value.int .i64 mx, .int .i64 sx, .slice ad14 (l.length + 1) cp14, .bool false] = chC ⟨l ++ [k], lateC A (l ++ [k]), sumC A (l ++ [k]), false⟩ (.slice ad14 (l.length + 1) cp14) := by unfold chC; rw [HLN.out.1, HLN.out.2]
        rw [hcks] at hbp
        have hsn2 : Sl wc 3 1 (.slice ad14 (l.length + 1) cp14) (l ++ [k]).length (intsC (l ++ [k])) own14 := by rw [intsC_snoc, List.length_append]; exact hsn
        have key := IH.out (l ++ [k]) wc bk _ bvk own14 owk (by have := HL.out; simp; omega) (getD_snoc HLTT.out HKL.out) (HTW.out.frm hfr (Nat.le_refl _)) hsn2 hsk HFK.out
        obtain ⟨nb, hnb⟩ : ∃ r, r = (ext N d (l ++ [k])).foldl (stepR A) bk := ⟨_, rfl⟩
        rw [← hnb] at key
        have hnb2 : nb = (extK N d l (k + 1)).foldl (stepR A) best := by rw [hnb, extK_succ, List.foldl_append, HCK.out, HBK.out]; rfl
        have hlo0 := loadVarB hbp (P := Tryd.prog) Tryd.underlying128 rfl info128
        have hlo1 := loadVarB b1 (P := Tryd.prog) Tryd.underlying128 rfl info128
        clear hnb hcks hsn hsn2 hbp hfc emx w2a B0 B1 B2 HSK HFR HSLW HFX
        have KEY := Lib.hid key
        have HNB := Lib.hid hnb2
        have HLO0 := Lib.hid hlo0
        have HLO1 := Lib.hid hlo1
        have B0 := Lib.hid b0
        have B1 := Lib.hid b1
        have B2 := Lib.hid b2
        have HFR := Lib.hid hfr
        clear hfr b2 b1 b0 hlo1 hlo0 hnb2 key
        clear hsk hp
        go_wp2_with (with_reducible refine atLoad 128 rfl ?_; first | refine wpList_loadE rfl rfl rfl HLO0.out ?_ | refine wpList_loadE rfl rfl rfl HLO1.out ?_)
        refine KEY.out.mono ?_; rintro en w6 ⟨ov, ow, rfl, hs6, hb6, hf6⟩
        have b0 := hf6.blk B0.out B0.out.lt (by simp)
        have b1 := hf6.blk B1.out B1.out.lt (by simp)
        have b2 := hf6.blk B2.out B2.out.lt (by simp)
        have hfr := HFR.out.call hf6 HFR.out.size (by simp)
        clear hf6 B0 B1 B2 HFR KEY HLO0 HLO1
        have B0 := Lib.hid b0
        have B1 := Lib.hid b1
        have B2 := Lib.hid b2
        have HFR := Lib.hid hfr
        have HS6 := Lib.hid hs6
        have HB6 := Lib.hid hb6
        clear hb6 hs6 hfr b2 b1 b0
        go_wp2_with (with_reducible refine atStore 128 rfl ?_; refine stop_ ?_)
        refine go_on ?_
        refine wpList_storeB (P := Tryd.prog) (ty := 128) (cs := chC nb ov) rfl rfl B1.out rfl rfl rfl info128 (by simp [chC, Value.oneCell']; exact HS6.out.oneV) ?_
        have hne := HS6.out.ne_blk B1.out (by decide)
        have HNE := Lib.hid hne
        clear hne
        have b0 := B0.out.row_other (g := c + 1) (chC nb ov).toArray (by omega)
        have b1 := B1.out.row (chC nb ov)
        have b2 := B2.out.row_other (g := c + 1) (chC nb ov).toArray (by omega)
        have hfr := HFR.out.setRow (g := c + 1) (.inr (by have := HCC.out; omega)) (chC nb ov).toArray
        have hs7 := HS6.out.kept (w' := w6.setRow (c + 1) (chC nb ov).toArray) (fun b hb => setRow_other _ _ _ _ (fun h => HNE.out b hb h))
        generalize w6.setRow (c + 1) (chC nb ov).toArray = w7 at b0 b1 b2 hfr hs7 ⊢
        clear B0 B1 B2 HFR HS6
        have B0 := Lib.hid b0
        have B1 := Lib.hid b1
        have B2 := Lib.hid b2
        have HFR := Lib.hid hfr
        have HS7 := Lib.hid hs7
        clear hs7 hfr b2 b1 b0
        go_wp2_with fail
        (try simp only [w4, w5])
        exact ⟨⟨k + 1, nb, ov, ow, by simp, HKL.out, HNB.out, B0.out, B1.out, B2.out, HS7.out, HB6.out, HFR.out⟩, meas_up HKL.out⟩
      · have hkl' : ¬ (k : Int) < (N : Int) := by omega
        obtain rfl : k = N := by omega
        have hlo1 := loadVarB b1 (P := Tryd.prog) Tryd.underlying128 rfl info128
        have HBK := Lib.hid hbk
        have B0 := Lib.hid b0
        have B1 := Lib.hid b1
        have B2 := Lib.hid b2
        have HSK := Lib.hid hsk
        have HFK := Lib.hid hfk
        have HFR := Lib.hid hfr
        have HLO1 := Lib.hid hlo1
        clear hlo1 hfr hfk hsk b2 b1 b0 hbk
        go_wp2_with (first | (with_reducible refine atLoad 128 rfl ?_; refine wpList_loadE rfl rfl rfl HLO1.out ?_) | (with_reducible refine atStore 128 rfl ?_; refine stop_ ?_))
        refine go_on ?_
        refine wpList_storeB (P := Tryd.prog) (ty := 128) (cs := chC bk bvk) rfl rfl B2.out rfl rfl rfl info128 (by simp [chC, Value.oneCell']; exact HSK.out.oneV) ?_
        have hne := HSK.out.ne_blk B2.out (by decide)
        have hs7 := HSK.out.kept (w' := wr.setRow (c + 2) (chC bk bvk).toArray) (fun b hb => setRow_other _ _ _ _ (fun h => hne b hb h))
        have hfin := HFR.out.setRow (g := c + 2) (.inr (by have := HCC.out; omega)) (chC bk bvk).toArray
        have hb2 := B2.out.row (chC bk bvk)
        clear hne
        have HFIN := Lib.hid hfin
        have HB2 := Lib.hid hb2
        have HS7 := Lib.hid hs7
        clear hs7 hb2 hfin
        go_wp2_with fail
        refine bodyPost_ret (results_c Tryd.results85 HB2.out rfl Tryd.underlying128 rfl info128) rfl ?_
        have hr : (ext k (d + 1) l).foldl (stepR A) best = bk := HBK.out.symm
        rw [hr]
        exact ⟨_, _, rfl, HS7.out, HFK.out, HFIN.out⟩
end Go.Proofs.YtghkfopcjdkieaaDoor
