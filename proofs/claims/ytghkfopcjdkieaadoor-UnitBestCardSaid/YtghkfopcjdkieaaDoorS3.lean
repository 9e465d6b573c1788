/-
  All choices, one behind the other.
-/
import Derived.Test.YtghkfopcjdkieaaDoorS2
namespace Go.Proofs.YtghkfopcjdkieaaDoor
set_option linter.all false
set_option linter.unusedSimpArgs false
set_option linter.unusedVariables false
open Go.RowKit

theorem info3x : (Tryd.prog.info? 3).map (fun i => (i.zero, i.size, i.bytes)) = some (some (.int .i64 0), 1, 8) := by kernel_rfl
theorem equalIn_nil (d : Nat) (a : Addr) (n c : Nat) (w : World) : (Op.equalIn (d + 1) 64 (.slice (some a) n c) (.slice none 0 0)).run Tryd.prog w = .ok false w := by
  simp [Op.equalIn, run_underlying Tryd.underlying64]
theorem equal_nil (a : Addr) (n c : Nat) (w : World) : (Op.equal 64 (.slice (some a) n c) (.slice none 0 0)).run Tryd.prog w = .ok false w := equalIn_nil 9999 a n c w
theorem eql_nil (a : Addr) (n c : Nat) (w : World) : (binOp .eql 64 (.slice (some a) n c) (.slice none 0 0)).run Tryd.prog w = .ok (.bool false) w := by
  simp only [binOp]
  simp [equal_nil a n c w]
theorem equalIn_nil0 (d : Nat) (w : World) : (Op.equalIn (d + 1) 64 (.slice none 0 0) (.slice none 0 0)).run Tryd.prog w = .ok true w := by
  simp [Op.equalIn, run_underlying Tryd.underlying64]
theorem equal_nil0 (w : World) : (Op.equal 64 (.slice none 0 0) (.slice none 0 0)).run Tryd.prog w = .ok true w := equalIn_nil0 9999 w
theorem eql_nil0 (w : World) : (binOp .eql 64 (.slice none 0 0) (.slice none 0 0)).run Tryd.prog w = .ok (.bool true) w := by
  simp only [binOp]
  simp [equal_nil0 w]
attribute [local go_sem] eql_nil eql_nil0
set_option maxRecDepth 100000 in
set_option maxHeartbeats 4000000 in
theorem clone_any (sv : Value) (n : Nat) (l : List Nat) (own : Option Nat) (w : World) (hsl : Sl w 3 1 sv n (intsC l) own) (hn : n ≤ 1000) :
    Calls Tryd.prog 114 #[sv] w fun e w' => ∃ v own', e = .returned v ∧ Sl w' 3 1 v n (intsC l) own' ∧ Frm w.heap.size [] w w' ∧ ∀ b, own' = some b → w.heap.size ≤ b := by
  have hf0 := Tryd.func114
  obtain ⟨i0, hi0, hz0', hz1, hz2⟩ := info_parts3 info3x
  rcases hsl.2 with ⟨rfl, rfl, rfl⟩ | ⟨b, off, cap, arr, rfl, h1, h2, h3, h4, h5, h6⟩
  · have HSL := Lib.hid hsl
    clear hsl
    go_enter Tryd.func114, Tryd.ntmps114
    go_wp2_with fail
    go_ret
    exact ⟨_, none, rfl, HSL.out, Frm.refl _ _ _, fun b h => by cases h⟩
  · clear h2 h3 h4 h5 h6
    have HSL := Lib.hid hsl
    have HI0 := Lib.hid hi0
    have HZ0 := Lib.hid hz0'
    have HZ1 := Lib.hid hz1
    have HZ2 := Lib.hid hz2
    have HN := Lib.hid hn
    have H1 := Lib.hid h1
    clear h1 hn hz2 hz1 hz0' hi0 hsl
    go_enter Tryd.func114, Tryd.ntmps114
    go_wp2_with (at_builtin; refine hold ?_; intro qG hG)
    refine hG.1 ?_; clear hG qG
    have hb0 : Sl (w.alloc (Obj.cells #[] 3)) 3 1 (.slice (some ⟨w.heap.size, 0, none⟩) 0 0) 0 [] (some w.heap.size) :=
      ⟨rfl, .inr ⟨w.heap.size, 0, 0, _, rfl, rfl, heap_alloc_new w _, Nat.le_refl _, Nat.zero_le _, by simp, by simp⟩⟩
    refine wpList_append_both rfl (.tmp 5) (.tmp 6) 64 rfl 3 i0 _ 1 8 Tryd.underlying64 HI0.out HZ0.out HZ1.out HZ2.out rfl _ 0 [] _ rfl hb0 _ n (intsC l) _ rfl (HSL.out.alloc _) (intsC_one l) (by have := HN.out; unfold maxLen; omega) (by have := HN.out; omega) ?_
    intro v1 w1 own1 hs1 hf1 ho1
    rw [Nat.zero_add, List.nil_append] at hs1
    obtain ⟨ad1, cp1, rfl⟩ := hs1.form
    have hfin : Frm w.heap.size [] w w1 := ((Frm.refl w.heap.size [] w).alloc (Nat.le_refl _) _).call hf1 (by simp) (fun x hx hm => by simp at hm; omega)
    have hown : ∀ b, own1 = some b → w.heap.size ≤ b := fun b hb => by
      rcases ho1 with h | ⟨g, h, hg⟩
      · rw [h] at hb; cases hb; exact Nat.le_refl _
      · rw [h] at hb; cases hb; simp at hg; omega
    clear hf1 ho1
    have HS1 := Lib.hid hs1
    have HFIN := Lib.hid hfin
    have HOWN := Lib.hid hown
    clear hown hfin hs1
    go_wp2_with fail
    go_ret
    exact ⟨_, own1, rfl, HS1.out, HFIN.out, HOWN.out⟩

theorem hasB_list (l : List Nat) (k : Nat) : hasB (fun i => (l.getD i 0 : Int)) l.length (k : Int) = l.contains k := by
  rw [Bool.eq_iff_iff]
  unfold hasB
  rw [List.any_eq_true, List.contains_iff_mem]
  constructor
  · rintro ⟨i, hi, h⟩
    have hi' : i < l.length := by simpa using hi
    simp only [decide_eq_true_eq, List.getD_eq_getElem?_getD, List.getElem?_eq_getElem hi', Option.getD_some] at h
    have h2 : l[i] = k := by omega
    rw [← h2]
    exact List.getElem_mem _
  · intro hm
    obtain ⟨i, hi, h⟩ := List.getElem_of_mem hm
    refine ⟨i, by simpa using hi, ?_⟩
    simp only [decide_eq_true_eq, List.getD_eq_getElem?_getD, List.getElem?_eq_getElem hi, Option.getD_some, h]
/-- The boxes of 'choices'. -/
structure ChEnv (V : World) (c e g N G : Nat) : Prop where
  many : Blk V g 3 [.int .i64 (N : Int)]
  n : Blk V (g + 1) 3 [.int .i64 (G : Int)]
  do_ : Blk V (g + 2) 126 [.func (.func 83) #[] (doCaps c e)]
  next : Blk V (g + 3) 126 [.func (.func 112) #[] #[.pointer (some ⟨g + 1, 0, none⟩), .pointer (some ⟨g + 2, 0, none⟩), .pointer (some ⟨g, 0, none⟩), .pointer (some ⟨g + 3, 0, none⟩)]]
theorem ChEnv.frm {V V' : World} {c e g N G B : Nat} (h : ChEnv V c e g N G) (hce : c + 3 < e) (heg : e + 2 < g) (hf : Frm B [c + 3, e, e + 1, e + 2] V V') (hB : V.heap.size ≤ B) : ChEnv V' c e g N G :=
  ⟨hf.blk h.many (Nat.lt_of_lt_of_le h.many.lt hB) (by simp; omega), hf.blk h.n (Nat.lt_of_lt_of_le h.n.lt hB) (by simp; omega), hf.blk h.do_ (Nat.lt_of_lt_of_le h.do_.lt hB) (by simp; omega), hf.blk h.next (Nat.lt_of_lt_of_le h.next.lt hB) (by simp; omega)⟩
def extK (N d : Nat) (l : List Nat) (k : Nat) : List (List Nat) := (List.range k).flatMap fun i => if l.contains i then [] else ext N d (l ++ [i])
theorem extK_succ (N d : Nat) (l : List Nat) (k : Nat) : extK N d l (k + 1) = extK N d l k ++ (if l.contains k then [] else ext N d (l ++ [k])) := by simp [extK, List.range_succ]
theorem intsC_snoc (l : List Nat) (k : Nat) : intsC (l ++ [k]) = intsC l ++ [.int .i64 (k : Int)] := by simp [intsC]
theorem getD_snoc {l : List Nat} {k N : Nat} (h : ∀ j, j < l.length → l.getD j 0 < N) (hk : k < N) : ∀ j, j < (l ++ [k]).length → (l ++ [k]).getD j 0 < N := by
  intro j hj
  simp only [List.length_append, List.length_cons, List.length_nil] at hj
  rw [List.getD_eq_getElem?_getD]
  rcases Nat.lt_or_ge j l.length with h1 | h1
  · rw [List.getElem?_append_left h1, ← List.getD_eq_getElem?_getD]
    exact h j h1
  · obtain rfl : j = l.length := by omega
    rw [List.getElem?_append_right (Nat.le_refl _)]
    simpa using hk

set_option maxRecDepth 100000 in
set_option maxHeartbeats 8000000 in
theorem next_any (ua : Option Addr) (ub uo N ucap : Nat) (U : Nat → UC) (sa : Option Addr) (sb so scap : Nat) (T : Nat → Int) (ga : Option Addr) (gb go_ G gcap : Nat) (Q : Nat → Int × Int) (c e g : Nat) (hce : c + 3 < e) (heg : e + 2 < g) (ok : TeamOK N U T G Q)
    (w : World) (tw : TeamW w ua ub uo N U sa sb so N T ga gb go_ G Q) (hwc : w.heap.size ≤ c) :
    ∀ (d : Nat) (l : List Nat) (V : World) (s : SC) (lv : Value) (own : Option Nat), l.length + d = G → (∀ k, k < l.length → l.getD k 0 < N) → Frm w.heap.size [] w V → Given V c ua N ucap sa scap ga G gcap → ChEnv V c e g N G → StAt V (c + 3) e (e + 1) (e + 2) s →
      Sl V 3 1 lv l.length (intsC l) own → (∀ b, own = some b → b ∉ [c + 3, e, e + 1, e + 2] ∧ c ≤ b) →
      Calls Tryd.prog 112 #[lv, .pointer (some ⟨g + 1, 0, none⟩), .pointer (some ⟨g + 2, 0, none⟩), .pointer (some ⟨g, 0, none⟩), .pointer (some ⟨g + 3, 0, none⟩)] V fun en V' =>
        (∃ v, en = .returned v) ∧ StAt V' (c + 3) e (e + 1) (e + 2) ((ext N d l).foldl (takeS (arrA U T Q)) s) ∧ Frm V.heap.size [c + 3, e, e + 1, e + 2] V V' := by
  have hf0 := Tryd.func112
  intro d
  induction d with
  | zero =>
    intro l V s lv own hl hlt hw hg hch hs hsl hown
    obtain rfl : G = l.length := by omega
    obtain ⟨_, la, lb, lo, lcap, rfl, _⟩ := hsl.ints
    have k0 : V.cell? ⟨g + 1, 0, none⟩ = some (.int .i64 (l.length : Int)) := hch.n.cell 0
    have k1 : V.cell? ⟨g + 2, 0, none⟩ = some (.func (.func 83) #[] (doCaps c e)) := hch.do_.cell 0
    have hdo := do_any ua ub uo N ucap U sa sb so scap T ga gb go_ l.length gcap Q c e hce ok w V hw tw hg s hs l hlt _ own hsl hown
    unfold doCaps at k1
    clear hsl hown hs hch hg hw hlt tw ok hl
    have HDO := Lib.hid hdo
    clear hdo
    go_enter Tryd.func112, Tryd.ntmps112
    go_wp2_with fail
    refine HDO.out.mono ?_; rintro en V' ⟨⟨v, rfl⟩, hs', hf'⟩
    have HS2 := Lib.hid hs'
    have HF2 := Lib.hid hf'
    clear hf' hs'
    go_wp2_with fail
    refine bodyPost_ret (v := .tuple #[]) (by simp [results, Tryd.results112, go_sem]) rfl ?_
    exact ⟨⟨_, rfl⟩, HS2.out, HF2.out⟩
  | succ d ih =>
    intro l V s lv own hl hlt hw hg hch hs hsl hown
    obtain ⟨_, la, lb, lo, lcap, rfl, hrl⟩ := hsl.ints
    have hG6 : G ≤ 6 ∧ N ≤ 6 := by have := ok.n6; have := ok.gn; omega
    have k0 : V.cell? ⟨g + 1, 0, none⟩ = some (.int .i64 (G : Int)) := hch.n.cell 0
    have k1 : V.cell? ⟨g, 0, none⟩ = some (.int .i64 (N : Int)) := hch.many.cell 0
    have hne : ((l.length : Int) == (G : Int)) = false := by simp; omega
    have hne2 : ¬ (l.length : Int) = (G : Int) := by omega
    have IH := Lib.hid ih
    have HLT2 := Lib.hid hlt
    have HW := Lib.hid hw
    have HG := Lib.hid hg
    have HCH := Lib.hid hch
    have HS0 := Lib.hid hs
    have HSL := Lib.hid hsl
    have HOWN := Lib.hid hown
    have HRL := Lib.hid hrl
    have HTW := Lib.hid tw
    have HOK := Lib.hid ok
    have HG6 := Lib.hid hG6
    have HL := Lib.hid hl
    have HCE := Lib.hid hce
    have HEG := Lib.hid heg
    have HWC := Lib.hid hwc
    clear hwc heg hce hl hG6 ok tw hrl hown hsl hs hch hg hw hlt ih
    go_enter Tryd.func112, Tryd.ntmps112
    go_wp2_with fail
    go_loopw [15] (fun s15 wr => ∃ k : Nat, s15 = .int .i64 k ∧ k ≤ N ∧ StAt wr (c + 3) e (e + 1) (e + 2) ((extK N d l k).foldl (takeS (arrA U T Q)) s) ∧ Frm V.heap.size [c + 3, e, e + 1, e + 2] V wr) (fun s15 _ => N - (intOf s15).toNat)
    case atStart => exact ⟨0, rfl, Nat.zero_le _, HS0.out, by repeat (first | with_reducible exact Frm.refl _ _ _ | with_reducible refine Frm.drewN ?_ | with_reducible refine Frm.drew ?_ | ((with_reducible refine Frm.setCell' ?_ ?_); · first | (left; simp; done) | (right; simp; done) | (right; simp; omega)) | ((with_reducible refine Frm.alloc' ?_ ?_); · first | exact Nat.le_refl _ | (simp; done) | (simp; omega)))⟩
    case round =>
      obtain ⟨k, rfl, hk, hst, hfr⟩ := hrel
      clear k0 k1
      by_cases hkl : k < N
      · have hkl' : (k : Int) < (N : Int) := by omega
        have w4 : IntKind.i64.wrap ((k : Int) + 1) = (k : Int) + 1 := IntWalk.i64_in _ (by have := HG6.out; omega)
        have w5x : wrap64 ((k : Int) + 1) = (k : Int) + 1 := IntWalk.wrap64_in _ (by have := HG6.out; omega)
        have hsl1 := HSL.out.frm hfr (fun b hb => HSL.out.lt b hb) (fun b hb => (HOWN.out b hb).1)
        have hch1 := HCH.out.frm HCE.out HEG.out hfr (Nat.le_refl _)
        have hg1 := HG.out.frm HCE.out hfr (Nat.le_refl _)
        have hw1 : Frm w.heap.size [] w wr := HW.out.call hfr HW.out.size (fun x hx hm => by have := HWC.out; have := HCE.out; simp at hm; omega)
        obtain ⟨_, la2, lb2, lo2, lcap2, elv, hrl1⟩ := hsl1.ints
        cases elv
        have hcon := hasB_list l k
        have HSL1 := Lib.hid hsl1
        have HCH1 := Lib.hid hch1
        have HG1 := Lib.hid hg1
        have HW1 := Lib.hid hw1
        have HRL1 := Lib.hid hrl1
        have HCON := Lib.hid hcon
        have HFR := Lib.hid hfr
        have HST := Lib.hid hst
        have HKL := Lib.hid hkl
        clear hkl hst hfr hcon hrl1 hw1 hg1 hch1 hsl1
        go_wp2_with fail
        refine (containsI_any la lb2 lo2 l.length lcap (fun i => (l.getD i 0 : Int)) (k : Int) _ HRL1.out).mono ?_; rintro en w1 ⟨rfl, hf1⟩
        rw [HCON.out]
        have hsl1 := HSL1.out.frm hf1 (fun b hb => HSL1.out.lt b hb) (by simp)
        have hch1 := HCH1.out.frm HCE.out HEG.out (hf1.narrow (S' := [c + 3, e, e + 1, e + 2]) (by simp)) (Nat.le_refl _)
        have hg1 := HG1.out.frm0 hf1 (Nat.le_refl _)
        have hw1 := HW1.out.call hf1 HW1.out.size (by simp)
        have hst := HST.out.frm0 hf1 (Nat.le_refl _)
        have hfr := HFR.out.call hf1 HFR.out.size (by simp)
        clear hf1 HSL1 HCH1 HG1 HW1 HRL1 HST HFR
        cases hc : l.contains k
        · -- the number is new
          have k3 : ∀ X, Frm w1.heap.size [c + 3, e, e + 1, e + 2] w1 X → X.cell? ⟨g + 3, 0, none⟩ = some (.func (.func 112) #[] #[.pointer (some ⟨g + 1, 0, none⟩), .pointer (some ⟨g + 2, 0, none⟩), .pointer (some ⟨g, 0, none⟩), .pointer (some ⟨g + 3, 0, none⟩)]) := fun X hX => (hX.blk hch1.next hch1.next.lt (by have := HCE.out; have := HEG.out; simp; omega)).cell 0
          obtain ⟨i0, hi0, hz0', hz1, hz2⟩ := info_parts3 info3x
          have hck := hc
          have hc1 : c + 3 < w1.heap.size ∧ e + 2 < w1.heap.size := ⟨(Classical.choose_spec (Classical.choose_spec hst.bw)).1.lt, hst.bf.lt⟩
          -- what remains, behind the append
          have tailK : ∀ (X : World) (v2 : Value) (own2 : Option Nat), Frm w1.heap.size [] w1 X → Sl X 3 1 v2 (l.length + 1) (intsC l ++ [.int .i64 (k : Int)]) own2 → (∀ b, own2 = some b → w1.heap.size ≤ b) →
              Calls Tryd.prog 112 #[v2, .pointer (some ⟨g + 1, 0, none⟩), .pointer (some ⟨g + 2, 0, none⟩), .pointer (some ⟨g, 0, none⟩), .pointer (some ⟨g + 3, 0, none⟩)] X fun en V' =>
                (∃ v, en = .returned v) ∧ StAt V' (c + 3) e (e + 1) (e + 2) ((extK N d l (k + 1)).foldl (takeS (arrA U T Q)) s) ∧ Frm V.heap.size [c + 3, e, e + 1, e + 2] V V' ∧ Frm w1.heap.size [c + 3, e, e + 1, e + 2] w1 V' := fun X v2 own2 hX hs2 ho2 => by
            have := IH.out (l ++ [k]) X _ v2 own2 (by simp; have := HL.out; omega) (getD_snoc HLT2.out HKL.out) (hw1.call hX hw1.size (by simp)) (hg1.frm0 hX (Nat.le_refl _)) (hch1.frm HCE.out HEG.out (hX.narrow (by simp)) (Nat.le_refl _)) (hst.frm0 hX (Nat.le_refl _)) (by rw [intsC_snoc]; simpa using hs2)
              (fun b hb => ⟨fun hm => by have := ho2 b hb; have := HCE.out; simp at hm; omega, by have := ho2 b hb; omega⟩)
            refine this.mono ?_
            rintro en V' ⟨hv, h1, h2⟩
            refine ⟨hv, ?_, (hfr.call hX hfr.size (by simp)).call h2 (Nat.le_trans hfr.size hX.size) (fun x hx hm => hm), (hX.narrow (by simp)).call h2 hX.size (fun x hx hm => hm)⟩
            rw [extK_succ, List.foldl_append, hck]
            exact h1
          have helem : ∀ X : World, Sl (X.alloc (Obj.cells #[.int .i64 (k : Int)] 3)) 3 1 (.slice (some ⟨X.heap.size, 0, none⟩) 1 1) 1 [.int .i64 (k : Int)] (some X.heap.size) := fun X =>
            ⟨rfl, .inr ⟨X.heap.size, 0, 1, _, rfl, rfl, heap_alloc_new X _, Nat.le_refl _, by decide, by simp, by simp⟩⟩
          have hl1000 : l.length ≤ 1000 := by have := HL.out; have := HG6.out; omega
          clear hck hst hfr hg1 hch1 hw1
          have HSL1 := Lib.hid hsl1
          have HFX := Lib.hid k3
          have HI0 := Lib.hid hi0
          have HZ0 := Lib.hid hz0'
          have HZ1 := Lib.hid hz1
          have HZ2 := Lib.hid hz2
          have HC1 := Lib.hid hc1
          have HTAIL := Lib.hid tailK
          have HELEM := Lib.hid helem
          have HL1 := Lib.hid hl1000
          have HC := Lib.hid hc
          clear hc hl1000 helem tailK hc1 hz2 hz1 hz0' hi0 k3 hsl1
          go_upto_region 6 with fail
          refine wp_region_leftL (fun X => Frm w1.heap.size [c + 3, e, e + 1, e + 2] w1 X) 1000 (by kernel_rfl) ?_
          have HS := Lib.hid (show Frm w1.heap.size [c + 3, e, e + 1, e + 2] w1 w1.drew from (Frm.refl _ _ w1).drew)
          first | (refine LeftL.run (v := ?_) 0 rfl (by kernel_rfl) rfl (fun _ _ d _ _ h => by cases d <;> exact h) ?_ HS.out ?_; rotate_left; (· intro V hV; obtain q0 := HFX.out V hV; clear hV; go_simp; rfl); (intro K' hK'; go_simp; refine hK' _ ?_; clear hK' K')) | (refine LeftL.runG (v := ?_) 0 rfl (by kernel_rfl) rfl (fun _ _ d _ _ h => by cases d <;> exact h) ?_ HS.out ?_; rotate_left; (· intro V hV; obtain q0 := HFX.out V hV; clear hV; go_simp; rfl); (intro K' hK'; go_simp; refine hK' _ ?_; clear hK' K')) | (refine LeftL.take (v := undef) 0 rfl (by kernel_rfl) (fun _ _ d _ _ h => by cases d <;> exact h) (.inr ⟨rfl, rfl⟩) HS.out ?_; (intro K' hK'; go_simp; refine hK' _ ?_; clear hK' K'))
          first | (refine LeftL.run (v := ?_) 1 rfl (by kernel_rfl) rfl (fun _ _ d _ _ h => by cases d <;> exact h) ?_ HS.out ?_; rotate_left; (· intro V hV; obtain q0 := HFX.out V hV; clear hV; go_simp; rfl); (intro K' hK'; go_simp; refine hK' _ ?_; clear hK' K')) | (refine LeftL.runG (v := ?_) 1 rfl (by kernel_rfl) rfl (fun _ _ d _ _ h => by cases d <;> exact h) ?_ HS.out ?_; rotate_left; (· intro V hV; obtain q0 := HFX.out V hV; clear hV; go_simp; rfl); (intro K' hK'; go_simp; refine hK' _ ?_; clear hK' K')) | (refine LeftL.take (v := undef) 1 rfl (by kernel_rfl) (fun _ _ d _ _ h => by cases d <;> exact h) (.inr ⟨rfl, rfl⟩) HS.out ?_; (intro K' hK'; go_simp; refine hK' _ ?_; clear hK' K'))
          first | (refine LeftL.run (v := ?_) 3 rfl (by kernel_rfl) rfl (fun _ _ d _ _ h => by cases d <;> exact h) ?_ HS.out ?_; rotate_left; (· intro V hV; obtain q0 := HFX.out V hV; clear hV; go_simp; rfl); (intro K' hK'; go_simp; refine hK' _ ?_; clear hK' K')) | (refine LeftL.runG (v := ?_) 3 rfl (by kernel_rfl) rfl (fun _ _ d _ _ h => by cases d <;> exact h) ?_ HS.out ?_; rotate_left; (· intro V hV; obtain q0 := HFX.out V hV; clear hV; go_simp; rfl); (intro K' hK'; go_simp; refine hK' _ ?_; clear hK' K')) | (refine LeftL.take (v := undef) 3 rfl (by kernel_rfl) (fun _ _ d _ _ h => by cases d <;> exact h) (.inr ⟨rfl, rfl⟩) HS.out ?_; (intro K' hK'; go_simp; refine hK' _ ?_; clear hK' K'))
          refine LeftL.two 2 4 rfl rfl (by kernel_rfl) ?_ ?_
          · go_wp2_with fail
            refine (clone_any _ l.length l _ w1.drew HSL1.out.drew HL1.out).mono ?_; rintro en w2 ⟨v, own2, rfl, hs2, hf2, ho2⟩
            obtain ⟨ad2, cp2, rfl⟩ := hs2.form
            have hX2 : Frm w1.heap.size [] w1 w2 := ((Frm.refl w1.heap.size [] w1).drew).call hf2 (Nat.le_refl _) (by simp)
            have hX3 := hX2.alloc hX2.size (Obj.cells #[.int .i64 (k : Int)] 3)
            have hS2 : Frm w1.heap.size [c + 3, e, e + 1, e + 2] w1 w2 := hX2.narrow (by simp)
            have hS3 : Frm w1.heap.size [c + 3, e, e + 1, e + 2] w1 (w2.alloc (Obj.cells #[.int .i64 (k : Int)] 3)) := hX3.narrow (by simp)
            have hsa := hs2.alloc (Obj.cells #[.int .i64 (k : Int)] 3)
            have hse := HELEM.out w2
            have ho2' : ∀ b, own2 = some b → w1.heap.size ≤ b := ho2
            clear hf2 ho2 hs2 hX2 HS
            have HS := Lib.hid hS2
            have HS3 := Lib.hid hS3
            have HX3 := Lib.hid hX3
            have HSA := Lib.hid hsa
            have HSE := Lib.hid hse
            have HO2 := Lib.hid ho2'
            clear ho2' hse hsa hX3 hS3 hS2
            go_wp2_with fail
            first | refine ⟨fun _ => HS.out, ?_⟩ | refine ⟨HS.out, ?_⟩
            refine LeftL.one 4 rfl (by kernel_rfl) ?_
            go_wp2_with fail
            clear HS
            have HS := HS3
            first | refine ⟨fun _ => HS.out, ?_⟩ | refine ⟨HS.out, ?_⟩
            clear HS3
            refine LeftL.one 5 rfl (by kernel_rfl) ?_
            refine wpList_append_both rfl (.tmp 24) (.tmp 26) 64 rfl 3 i0 _ 1 8 Tryd.underlying64 HI0.out HZ0.out HZ1.out HZ2.out rfl _ l.length (intsC l) _ rfl HSA.out _ 1 [.int .i64 (k : Int)] _ rfl HSE.out (by simp [Value.oneCell']) (by have := HL1.out; unfold maxLen; omega) (by have := HL1.out; omega) ?_
            intro v5 w5 own5 hs5 hf5 ho5
            obtain ⟨ad5, cp5, rfl⟩ := hs5.form
            have hX5 : Frm w1.heap.size [] w1 w5 := HX3.out.call hf5 HX3.out.size (fun x hx hm => by have := HO2.out x (by simpa using hm); omega)
            have hown5 : ∀ b, own5 = some b → w1.heap.size ≤ b := fun b hb => by
              rcases ho5 with h | ⟨q, h, hq⟩
              · exact HO2.out b (by rw [← h]; exact hb)
              · rw [h] at hb; cases hb; exact Nat.le_trans HX3.out.size hq
            have htl := HTAIL.out w5 _ own5 hX5 hs5 hown5
            have hS5 : Frm w1.heap.size [c + 3, e, e + 1, e + 2] w1 w5 := hX5.narrow (by simp)
            clear hf5 ho5 hs5 hX5 hown5 HS HSA HSE HX3 HO2
            have HS := Lib.hid hS5
            have HTL := Lib.hid htl
            clear htl hS5
            refine wpList_nil ?_
            refine ⟨fun _ => HS.out, ?_⟩
            refine LeftL.one 6 rfl (by kernel_rfl) ?_
            go_wp2_with fail
            refine HTL.out.mono ?_; rintro en w6 ⟨⟨v6, rfl⟩, hst6, hfr6, hS6⟩
            clear HS HTL
            have HST6 := Lib.hid hst6
            have HFR6 := Lib.hid hfr6
            have HS := Lib.hid hS6
            clear hS6 hfr6 hst6
            go_wp2_with fail
            first | refine ⟨fun _ => HS.out, ?_⟩ | refine ⟨HS.out, ?_⟩
            refine LeftL.done (by kernel_rfl) ?_
            go_wp2_with fail
            (try simp only [w4, w5x])
            exact ⟨⟨k + 1, by simp, HKL.out, HST6.out, HFR6.out⟩, meas_up HKL.out⟩
          · go_wp2_with fail
            have hX2 := ((Frm.refl w1.heap.size [] w1).drew).alloc (Nat.le_refl _) (Obj.cells #[.int .i64 (k : Int)] 3)
            have hS2 : Frm w1.heap.size [c + 3, e, e + 1, e + 2] w1 (w1.drew.alloc (Obj.cells #[.int .i64 (k : Int)] 3)) := hX2.narrow (by simp)
            clear HS
            have HS := Lib.hid hS2
            have HX2 := Lib.hid hX2
            clear hX2 hS2
            first | refine ⟨fun _ => HS.out, ?_⟩ | refine ⟨HS.out, ?_⟩
            refine LeftL.one 2 rfl (by kernel_rfl) ?_
            go_wp2_with fail
            refine (clone_any _ l.length l _ _ (HSL1.out.drew.alloc _) HL1.out).mono ?_; rintro en w2 ⟨v, own2, rfl, hs2, hf2, ho2⟩
            obtain ⟨ad2, cp2, rfl⟩ := hs2.form
            have hX3 := HX2.out.call hf2 HX2.out.size (by simp)
            have hS3 : Frm w1.heap.size [c + 3, e, e + 1, e + 2] w1 w2 := hX3.narrow (by simp)
            have hse := (HELEM.out w1.drew).frm hf2 (fun b hb => (HELEM.out w1.drew).lt b hb) (by simp)
            have ho2' : ∀ b, own2 = some b → w1.heap.size ≤ b := fun b hb => Nat.le_trans HX2.out.size (ho2 b hb)
            clear hf2 ho2 HS HX2
            have HS := Lib.hid hS3
            have HX3 := Lib.hid hX3
            have HSA := Lib.hid hs2
            have HSE := Lib.hid hse
            have HO2 := Lib.hid ho2'
            clear ho2' hse hs2 hX3 hS3
            go_wp2_with fail
            first | refine ⟨fun _ => HS.out, ?_⟩ | refine ⟨HS.out, ?_⟩
            refine LeftL.one 5 rfl (by kernel_rfl) ?_
            refine wpList_append_both rfl (.tmp 24) (.tmp 26) 64 rfl 3 i0 _ 1 8 Tryd.underlying64 HI0.out HZ0.out HZ1.out HZ2.out rfl _ l.length (intsC l) _ rfl HSA.out _ 1 [.int .i64 (k : Int)] _ rfl HSE.out (by simp [Value.oneCell']) (by have := HL1.out; unfold maxLen; omega) (by have := HL1.out; omega) ?_
            intro v5 w5 own5 hs5 hf5 ho5
            obtain ⟨ad5, cp5, rfl⟩ := hs5.form
            have hX5 : Frm w1.heap.size [] w1 w5 := HX3.out.call hf5 HX3.out.size (fun x hx hm => by have := HO2.out x (by simpa using hm); omega)
            have hown5 : ∀ b, own5 = some b → w1.heap.size ≤ b := fun b hb => by
              rcases ho5 with h | ⟨q, h, hq⟩
              · exact HO2.out b (by rw [← h]; exact hb)
              · rw [h] at hb; cases hb; exact Nat.le_trans HX3.out.size hq
            have htl := HTAIL.out w5 _ own5 hX5 hs5 hown5
            have hS5 : Frm w1.heap.size [c + 3, e, e + 1, e + 2] w1 w5 := hX5.narrow (by simp)
            clear hf5 ho5 hs5 hX5 hown5 HS HSA HSE HX3 HO2
            have HS := Lib.hid hS5
            have HTL := Lib.hid htl
            clear htl hS5
            refine wpList_nil ?_
            refine ⟨fun _ => HS.out, ?_⟩
            refine LeftL.one 6 rfl (by kernel_rfl) ?_
            go_wp2_with fail
            refine HTL.out.mono ?_; rintro en w6 ⟨⟨v6, rfl⟩, hst6, hfr6, hS6⟩
            clear HS HTL
            have HST6 := Lib.hid hst6
            have HFR6 := Lib.hid hfr6
            have HS := Lib.hid hS6
            clear hS6 hfr6 hst6
            go_wp2_with fail
            first | refine ⟨fun _ => HS.out, ?_⟩ | refine ⟨HS.out, ?_⟩
            refine LeftL.done (by kernel_rfl) ?_
            go_wp2_with fail
            (try simp only [w4, w5x])
            exact ⟨⟨k + 1, by simp, HKL.out, HST6.out, HFR6.out⟩, meas_up HKL.out⟩
        · have hst2 : StAt w1 (c + 3) e (e + 1) (e + 2) ((extK N d l (k + 1)).foldl (takeS (arrA U T Q)) s) := by
            rw [extK_succ, hc]
            simpa using hst
          clear hst hg1 hch1 hw1
          have HST := Lib.hid hst2
          have HFR := Lib.hid hfr
          have HSL1 := Lib.hid hsl1
          have HC := Lib.hid hc
          clear hc hsl1 hfr hst2
          go_wp2_with fail
          (try simp only [w4, w5x])
          exact ⟨⟨k + 1, by simp, HKL.out, HST.out, HFR.out⟩, meas_up HKL.out⟩
      · have hkl' : ¬ (k : Int) < (N : Int) := by omega
        obtain rfl : k = N := by omega
        have HST := Lib.hid hst
        have HFR := Lib.hid hfr
        clear hfr hst
        go_wp2_with fail
        go_end0
        exact ⟨⟨_, rfl⟩, HST.out, HFR.out⟩
end Go.Proofs.YtghkfopcjdkieaaDoor
