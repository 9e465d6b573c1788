/-
  When a ship comes off the ground, by the document: the whole tide.
-/
import Derived.Test.YtfmigicmfolbjaaDoorD2
namespace Go.Proofs.YtfmigicmfolbjaaDoor
set_option linter.all false
set_option linter.unusedSimpArgs false
set_option linter.unusedVariables false
open Go.RowKit

attribute [local go_sem ↓ high] run_min_ run_max_ run_min2 run_max2
theorem Turn.not {o : Int → Bool} {a b r : Int} (h : Turn (fun t => o t == false) a b r) : o r = false ∧ ∀ x, a ≤ x → x < r → o x = true := by
  refine ⟨by have := h.yes; simpa using this, fun x h1 h2 => ?_⟩
  have := h.no x h1 h2
  simpa using this
theorem Turn.pos {o : Int → Bool} {a b r : Int} (h : Turn (fun t => o t == true) a b r) : o r = true ∧ ∀ x, a ≤ x → x < r → o x = false := by
  refine ⟨by have := h.yes; simpa using this, fun x h1 h2 => ?_⟩
  have := h.no x h1 h2
  simpa using this
/-- Where the piece of the tide begins that is looked at. -/
def atF (T : Nat → Int × Int) (from_ : Int) : Nat → Int
  | 0 => from_
  | i + 1 => max from_ (T i).1
theorem atF_facts {n : Nat} {T : Nat → Int × Int} {from_ : Int} (hT : TideOK n T) : ∀ {i : Nat}, i < n → (T 0).1 ≤ from_ → from_ ≤ (T i).1 →
    from_ ≤ atF T from_ i ∧ atF T from_ i ≤ (T i).1 ∧ (atF T from_ i ≤ from_ ∨ (0 < i ∧ atF T from_ i ≤ (T (i - 1)).1)) ∧ (T (i - 1)).1 ≤ atF T from_ i ∧ (0 < i → atF T from_ i = max from_ (T (i - 1)).1)
  | 0, _, h0, h1 => ⟨Int.le_refl _, h1, .inl (Int.le_refl _), h0, fun h => absurd h (by omega)⟩
  | k + 1, hi, h0, h1 => by
    have h4 := hT.lt (i := k) (j := k + 1) (by omega) hi
    have e : atF T from_ (k + 1) = max from_ (T k).1 := rfl
    rw [e, Nat.add_sub_cancel]
    generalize (T k).1 = y at h4
    generalize (T (k + 1)).1 = z at h1 h4
    refine ⟨by omega, by omega, ?_, by omega, fun _ => rfl⟩
    by_cases h : y ≤ from_
    · exact .inl (by omega)
    · exact .inr ⟨by omega, by omega⟩
theorem atF_skip {n : Nat} {T : Nat → Int × Int} {from_ : Int} (hT : TideOK n T) : ∀ {i : Nat}, i < n → (T i).1 < from_ → atF T from_ (i + 1) = atF T from_ i
  | 0, _, h1 => by
    have e : atF T from_ (0 + 1) = max from_ (T 0).1 := rfl
    have e2 : atF T from_ 0 = from_ := rfl
    rw [e, e2]
    omega
  | k + 1, hi, h1 => by
    have h4 := hT.lt (i := k) (j := k + 1) (by omega) hi
    have e : atF T from_ (k + 1 + 1) = max from_ (T (k + 1)).1 := rfl
    have e2 : atF T from_ (k + 1) = max from_ (T k).1 := rfl
    rw [e, e2]
    omega
theorem since_on {O : Int → Bool} {T : Nat → Int × Int} {from_ f : Int} {i : Nat} (h1 : from_ ≤ f) (h2 : f ≤ (T i).1) (h3 : ∀ t, from_ ≤ t → t < f → O t = false) (h4 : ∀ t, f ≤ t → t ≤ (T i).1 → O t = true) : Since O T from_ (i + 1) f (T i).1 :=
  ⟨by omega, by rw [Nat.add_sub_cancel], h1, h2, h3, h4⟩
/-- A piece of the tide, from a on. -/
structure Piece (O L : Int → Bool) (T : Nat → Int × Int) (from_ : Int) (i : Nat) (a x te : Int) : Prop where
  line : Line L
  eq : ∀ t, a ≤ t → t ≤ x → O t = L t
  fa : from_ ≤ a
  ax : a ≤ x
  hs : a ≤ from_ ∨ (0 < i ∧ a ≤ (T (i - 1)).1)
  hx : x = (T i).1
  xe : x ≤ te
section
variable {O L : Int → Bool} {T : Nat → Int × Int} {from_ a x te f l r : Int} {i : Nat}
theorem piece_ay (h : Piece O L T from_ i a x te) (hn : NotYet O T from_ i) (ha : O a = true) (hx : O x = true) : Since O T from_ (i + 1) a x := by
  have hno : ∀ t, from_ ≤ t → t < a → O t = false := fun t h1 h2 => by
    rcases h.hs with hs | ⟨h0, hs⟩
    · omega
    · exact hn.no h0 t h1 (by omega)
  have h1 := h.ax
  have h2 := h.hx
  subst h2
  refine since_on h.fa h1 hno fun t h3 h4 => ?_
  rw [h.eq t h3 h4]
  rw [h.eq a (Int.le_refl _) h1] at ha
  rw [h.eq _ h1 (Int.le_refl _)] at hx
  exact h.line.both h3 h4 ha hx
theorem piece_up (h : Piece O L T from_ i a x te) (ha : O a = false) (hx : O x = true) : ∀ y z, a ≤ y → y ≤ z → z ≤ x → O y = true → O z = true := fun y z h1 h2 h3 hy => by
  have h4 := h.ax
  rw [h.eq a (Int.le_refl _) h4] at ha
  rw [h.eq x h4 (Int.le_refl _)] at hx
  rw [h.eq y h1 (by omega)] at hy
  rw [h.eq z (by omega) h3]
  exact h.line.up h4 ha hx y z h2 hy
theorem piece_down (h : Piece O L T from_ i a x te) (ha : O a = true) (hx : O x = false) : ∀ y z, a ≤ y → y ≤ z → z ≤ x → O y = false → O z = false := fun y z h1 h2 h3 hy => by
  have h4 := h.ax
  rw [h.eq a (Int.le_refl _) h4] at ha
  rw [h.eq x h4 (Int.le_refl _)] at hx
  rw [h.eq y h1 (by omega)] at hy
  rw [h.eq z (by omega) h3]
  cases hz : L z
  · rfl
  · have := h.line.down h4 ha hx y z h2 hz
    rw [hy] at this
    exact this.symm
theorem piece_b (h : Piece O L T from_ i a x te) (hn : NotYet O T from_ i) (ha : O a = false) (hx : O x = true) (hr : Turn (fun t => O t == true) a x r) : Since O T from_ (i + 1) r x := by
  obtain ⟨h5, h6⟩ := hr.pos
  have h1 := hr.lo
  have h7 := hr.hi
  have hup := piece_up h ha hx
  have hno : ∀ t, from_ ≤ t → t < r → O t = false := fun t h3 h4 => by
    by_cases hat : a ≤ t
    · exact h6 t hat h4
    · rcases h.hs with hs | ⟨h0, hs⟩
      · omega
      · exact hn.no h0 t h3 (by omega)
  have h2 := h.hx
  subst h2
  have h8 := h.fa
  exact since_on (by omega) h7 hno fun t h3 h4 => hup r t h1 h3 h4 h5
theorem piece_c (h : Piece O L T from_ i a x te) (hn : NotYet O T from_ i) (ha : O a = false) (hx : O x = false) : NotYet O T from_ (i + 1) := by
  have h2 := h.hx
  subst h2
  refine notYet_none hn h.hs fun t h3 h4 => ?_
  have h5 := h.ax
  rw [h.eq t h3 h4]
  rw [h.eq a (Int.le_refl _) h5] at ha
  rw [h.eq _ h5 (Int.le_refl _)] at hx
  exact h.line.none h3 h4 ha hx
theorem piece_an (h : Piece O L T from_ i a x te) (hn : NotYet O T from_ i) (ha : O a = true) (hr : Turn (fun t => O t == false) a x r) : Span O from_ te a (r - 1) := by
  obtain ⟨h5, h6⟩ := hr.not
  have h1 := hr.lo
  have h7 := hr.hi
  have h8 := h.fa
  have h9 := h.xe
  have hne : a ≠ r := fun e => by rw [e, h5] at ha; cases ha
  refine ⟨h8, by omega, by omega, fun t h3 h4 => ?_, fun t h3 h4 => h6 t h3 (by omega), fun _ => by rw [show r - 1 + 1 = r by omega]; exact h5⟩
  rcases h.hs with hs | ⟨h0, hs⟩
  · omega
  · exact hn.no h0 t h3 (by omega)
theorem piece_dy (h : Piece O L T from_ i a x te) (hs : Since O T from_ i f l) (hal : a = l) (hx : O x = true) : Since O T from_ (i + 1) f x := by
  have ha : O a = true := by rw [hal]; exact hs.yes l hs.mid (Int.le_refl _)
  have h2 := h.hx
  have h1 := h.ax
  have h3 := hs.mid
  subst h2
  refine since_on hs.lo (by omega) hs.no fun t h4 h5 => ?_
  by_cases hta : a ≤ t
  · rw [h.eq t hta h5]
    rw [h.eq a (Int.le_refl _) h1] at ha
    rw [h.eq _ h1 (Int.le_refl _)] at hx
    exact h.line.both hta h5 ha hx
  · exact hs.yes t h4 (by omega)
theorem piece_dn (h : Piece O L T from_ i a x te) (hs : Since O T from_ i f l) (hal : a = l) (hr : Turn (fun t => O t == false) a x r) : Span O from_ te f (r - 1) := by
  have ha : O a = true := by rw [hal]; exact hs.yes l hs.mid (Int.le_refl _)
  obtain ⟨h5, h6⟩ := hr.not
  have h1 := hr.lo
  have h7 := hr.hi
  have h9 := h.xe
  have h3 := hs.mid
  have hne : a ≠ r := fun e => by rw [e, h5] at ha; cases ha
  refine ⟨hs.lo, by omega, by omega, hs.no, fun t h4 h8 => ?_, fun _ => by rw [show r - 1 + 1 = r by omega]; exact h5⟩
  by_cases hta : a ≤ t
  · exact h6 t hta (by omega)
  · exact hs.yes t h4 (by omega)
end
set_option maxRecDepth 100000 in
set_option maxHeartbeats 16000000 in
theorem refFloat_any (g : Gr) (ad : Option Addr) (b off n cap : Nat) (T : Nat → Int × Int) (from_ : Int) (w : World) (hr : Rw w 2 ad b off n fun i => tpC (T i)) :
    Calls Tryd.prog 28 #[.agg g.cells.toArray, .slice ad n cap, .int .i64 from_] w fun e w' => FloatIs g n T from_ w w' e := by
  have hf0 := Tryd.func28
  have HR := Lib.hid hr
  clear hr
  go_enter Tryd.func28, Tryd.ntmps28
  go_upto_region 1 with fail
  refine namedC ?_; intro W hW
  obtain ⟨c, hc⟩ : ∃ c, c = w.heap.size := ⟨_, rfl⟩
  have k0 : Blk W c 52 g.cells := by rw [hW, hc]; exact Blk.new w 52 g.cells
  have hf : Frm w.heap.size [] w W := by rw [hW]; repeat (first | with_reducible exact Frm.refl _ _ _ | with_reducible refine Frm.drewN ?_ | with_reducible refine Frm.drew ?_ | ((with_reducible refine Frm.setCell' ?_ ?_); · first | (left; simp; done) | (right; simp; done) | (right; simp; omega)) | ((with_reducible refine Frm.alloc' ?_ ?_); · first | exact Nat.le_refl _ | (simp; done) | (simp; omega)))
  clear hW hf0
  rw [← hc]
  have K0 := Lib.hid k0
  have HF := Lib.hid hf
  have HC := Lib.hid hc
  clear hc hf k0
  go_wp2_with fail
  refine (refTides_any ad b off n cap T W (HR.out.frm HF.out (Nat.le_refl _))).mono ?_; rintro e w1 ⟨rfl, hf1⟩
  have k0 := hf1.blk K0.out K0.out.lt (by simp)
  have hf := HF.out.call hf1 HF.out.size (by simp)
  clear hf1 K0 HF
  have K0 := Lib.hid k0
  have HF := Lib.hid hf
  clear hf k0
  cases htb : tideB n T
  · have HTB := Lib.hid htb
    clear htb
    go_wp2_with fail
    refine bodyPost_ret (v := .tuple #[.int .i64 0, .int .i64 0, .int .i64 2]) (by simp [results, Tryd.results28, go_sem]) rfl ?_
    exact ⟨HF.out, .inl ⟨by rw [HTB.out]; rfl, rfl⟩⟩
  have hlo := load_gr K0.out
  have HTB := Lib.hid htb
  have HLO := Lib.hid hlo
  clear hlo htb
  go_wp2_with (with_reducible refine atLoad 52 rfl ?_; refine wpList_loadGE rfl rfl rfl HLO.out ?_)
  refine (refAground_any g w1).mono ?_; rintro e w2 ⟨rfl, hf1⟩
  have k0 := hf1.blk K0.out K0.out.lt (by simp)
  have hf := HF.out.call hf1 HF.out.size (by simp)
  clear hf1 K0 HF HLO
  have K0 := Lib.hid k0
  have HF := Lib.hid hf
  clear hf k0
  cases hgb : grB g
  · have HGB := Lib.hid hgb
    clear hgb
    go_wp2_with fail
    refine bodyPost_ret (v := .tuple #[.int .i64 0, .int .i64 0, .int .i64 2]) (by simp [results, Tryd.results28, go_sem]) rfl ?_
    exact ⟨HF.out, .inl ⟨by rw [HTB.out, HGB.out]; rfl, rfl⟩⟩
  have hT := tide_ok HTB.out
  have hG := gr_ok hgb
  have h1 := hT.one
  have had := HR.out.ad (by omega)
  subst had
  obtain ⟨nm, hnm⟩ : ∃ m, m = n - 1 := ⟨_, rfl⟩
  have hnn : (0 : Int) < (n : Int) := by omega
  have hnn0 : 0 < n := by omega
  have hn1 : ¬ (n : Int) = 0 := by omega
  have hnml : (nm : Int) < (n : Int) := by omega
  have v1 : IntKind.i64.wrap ((n : Int) - 1) = (nm : Int) := by rw [IntWalk.i64_in _ (by omega)]; omega
  have v2 : wrap64 ((n : Int) - 1) = (nm : Int) := by rw [IntWalk.wrap64_in _ (by omega)]; omega
  obtain ⟨t0, ht0⟩ : ∃ x, x = (T 0).1 := ⟨_, rfl⟩
  obtain ⟨te, hte⟩ : ∃ x, x = (T (n - 1)).1 := ⟨_, rfl⟩
  have hcl : ∀ V, Frm w2.heap.size [] w2 V → V.cell? ⟨b, off + 0, none⟩ = some (.int .i64 t0) ∧ V.cell? ⟨b, off, none⟩ = some (.int .i64 t0) ∧ V.cell? ⟨b, off + nm * 2, none⟩ = some (.int .i64 te) := fun V hV => by
    have h2 := HR.out.frm (HF.out.call hV HF.out.size (by simp)) (Nat.le_refl _)
    have h3 := h2.at_ 0 (by omega) 0 _ rfl
    have h4 := h2.at_ (n - 1) (by omega) 0 _ rfl
    refine ⟨?_, ?_, ?_⟩
    · rw [ht0]; simpa [tpC] using h3
    · rw [ht0]; simpa [tpC] using h3
    · rw [hte, hnm]; simpa [tpC] using h4
  have hfx := hcl
  clear hcl
  have HGB := Lib.hid hgb
  have HTT := Lib.hid hT
  have HGG := Lib.hid hG
  have H1 := Lib.hid h1
  have HNM := Lib.hid hnm
  have HT0 := Lib.hid ht0
  have HTE := Lib.hid hte
  have HFX := Lib.hid hfx
  clear hfx hte ht0 hnm h1 hG hT hgb
  have hinr : inB from_ (T 0).1 (T (n - 1)).1 = inB from_ t0 te := by rw [HT0.out, HTE.out]
  go_upto_region 3 with fail
  go_cut [34] from 21 to 34 (fun s34 w' => s34 = .bool (!inB from_ t0 te) ∧ Frm w2.heap.size [] w2 w')
  case first =>
    refine wp_region_leftL (fun V => Frm w2.heap.size [] w2 V) 1000 (by kernel_rfl) ?_
    have hS : Frm w2.heap.size [] w2 w2.drew := (Frm.refl _ _ w2).drew
    have HS := Lib.hid hS
    clear hS
    first | (refine LeftL.run (v := ?_) 0 rfl (by kernel_rfl) rfl (fun _ _ d _ _ h => by cases d <;> exact h) ?_ HS.out ?_; rotate_left; (· intro V hV; obtain ⟨q0, q1, q2⟩ := HFX.out V hV; clear hV; go_simp; rfl); (intro K' hK'; go_simp; refine hK' _ ?_; clear hK' K')) | (refine LeftL.runG (v := ?_) 0 rfl (by kernel_rfl) rfl (fun _ _ d _ _ h => by cases d <;> exact h) ?_ HS.out ?_; rotate_left; (· intro V hV; obtain ⟨q0, q1, q2⟩ := HFX.out V hV; clear hV; go_simp; rfl); (intro K' hK'; go_simp; refine hK' _ ?_; clear hK' K')) | (refine LeftL.take (v := undef) 0 rfl (by kernel_rfl) (fun _ _ d _ _ h => by cases d <;> exact h) (.inr ⟨rfl, rfl⟩) HS.out ?_; (intro K' hK'; go_simp; refine hK' _ ?_; clear hK' K'))
    first | (refine LeftL.run (v := ?_) 1 rfl (by kernel_rfl) rfl (fun _ _ d _ _ h => by cases d <;> exact h) ?_ HS.out ?_; rotate_left; (· intro V hV; obtain ⟨q0, q1, q2⟩ := HFX.out V hV; clear hV; go_simp; rfl); (intro K' hK'; go_simp; refine hK' _ ?_; clear hK' K')) | (refine LeftL.runG (v := ?_) 1 rfl (by kernel_rfl) rfl (fun _ _ d _ _ h => by cases d <;> exact h) ?_ HS.out ?_; rotate_left; (· intro V hV; obtain ⟨q0, q1, q2⟩ := HFX.out V hV; clear hV; go_simp; rfl); (intro K' hK'; go_simp; refine hK' _ ?_; clear hK' K')) | (refine LeftL.take (v := undef) 1 rfl (by kernel_rfl) (fun _ _ d _ _ h => by cases d <;> exact h) (.inr ⟨rfl, rfl⟩) HS.out ?_; (intro K' hK'; go_simp; refine hK' _ ?_; clear hK' K'))
    first | (refine LeftL.run (v := ?_) 2 rfl (by kernel_rfl) rfl (fun _ _ d _ _ h => by cases d <;> exact h) ?_ HS.out ?_; rotate_left; (· intro V hV; obtain ⟨q0, q1, q2⟩ := HFX.out V hV; clear hV; go_simp; rfl); (intro K' hK'; go_simp; refine hK' _ ?_; clear hK' K')) | (refine LeftL.runG (v := ?_) 2 rfl (by kernel_rfl) rfl (fun _ _ d _ _ h => by cases d <;> exact h) ?_ HS.out ?_; rotate_left; (· intro V hV; obtain ⟨q0, q1, q2⟩ := HFX.out V hV; clear hV; go_simp; rfl); (intro K' hK'; go_simp; refine hK' _ ?_; clear hK' K')) | (refine LeftL.take (v := undef) 2 rfl (by kernel_rfl) (fun _ _ d _ _ h => by cases d <;> exact h) (.inr ⟨rfl, rfl⟩) HS.out ?_; (intro K' hK'; go_simp; refine hK' _ ?_; clear hK' K'))
    first | (refine LeftL.run (v := ?_) 3 rfl (by kernel_rfl) rfl (fun _ _ d _ _ h => by cases d <;> exact h) ?_ HS.out ?_; rotate_left; (· intro V hV; obtain ⟨q0, q1, q2⟩ := HFX.out V hV; clear hV; go_simp; rfl); (intro K' hK'; go_simp; refine hK' _ ?_; clear hK' K')) | (refine LeftL.runG (v := ?_) 3 rfl (by kernel_rfl) rfl (fun _ _ d _ _ h => by cases d <;> exact h) ?_ HS.out ?_; rotate_left; (· intro V hV; obtain ⟨q0, q1, q2⟩ := HFX.out V hV; clear hV; go_simp; rfl); (intro K' hK'; go_simp; refine hK' _ ?_; clear hK' K')) | (refine LeftL.take (v := undef) 3 rfl (by kernel_rfl) (fun _ _ d _ _ h => by cases d <;> exact h) (.inr ⟨rfl, rfl⟩) HS.out ?_; (intro K' hK'; go_simp; refine hK' _ ?_; clear hK' K'))
    first | (refine LeftL.run (v := ?_) 4 rfl (by kernel_rfl) rfl (fun _ _ d _ _ h => by cases d <;> exact h) ?_ HS.out ?_; rotate_left; (· intro V hV; obtain ⟨q0, q1, q2⟩ := HFX.out V hV; clear hV; go_simp; rfl); (intro K' hK'; go_simp; refine hK' _ ?_; clear hK' K')) | (refine LeftL.runG (v := ?_) 4 rfl (by kernel_rfl) rfl (fun _ _ d _ _ h => by cases d <;> exact h) ?_ HS.out ?_; rotate_left; (· intro V hV; obtain ⟨q0, q1, q2⟩ := HFX.out V hV; clear hV; go_simp; rfl); (intro K' hK'; go_simp; refine hK' _ ?_; clear hK' K')) | (refine LeftL.take (v := undef) 4 rfl (by kernel_rfl) (fun _ _ d _ _ h => by cases d <;> exact h) (.inr ⟨rfl, rfl⟩) HS.out ?_; (intro K' hK'; go_simp; refine hK' _ ?_; clear hK' K'))
    first | (refine LeftL.run (v := ?_) 5 rfl (by kernel_rfl) rfl (fun _ _ d _ _ h => by cases d <;> exact h) ?_ HS.out ?_; rotate_left; (· intro V hV; obtain ⟨q0, q1, q2⟩ := HFX.out V hV; clear hV; go_simp; rfl); (intro K' hK'; go_simp; refine hK' _ ?_; clear hK' K')) | (refine LeftL.runG (v := ?_) 5 rfl (by kernel_rfl) rfl (fun _ _ d _ _ h => by cases d <;> exact h) ?_ HS.out ?_; rotate_left; (· intro V hV; obtain ⟨q0, q1, q2⟩ := HFX.out V hV; clear hV; go_simp; rfl); (intro K' hK'; go_simp; refine hK' _ ?_; clear hK' K')) | (refine LeftL.take (v := undef) 5 rfl (by kernel_rfl) (fun _ _ d _ _ h => by cases d <;> exact h) (.inr ⟨rfl, rfl⟩) HS.out ?_; (intro K' hK'; go_simp; refine hK' _ ?_; clear hK' K'))
    first | (refine LeftL.run (v := ?_) 6 rfl (by kernel_rfl) rfl (fun _ _ d _ _ h => by cases d <;> exact h) ?_ HS.out ?_; rotate_left; (· intro V hV; obtain ⟨q0, q1, q2⟩ := HFX.out V hV; clear hV; go_simp; rfl); (intro K' hK'; go_simp; refine hK' _ ?_; clear hK' K')) | (refine LeftL.runG (v := ?_) 6 rfl (by kernel_rfl) rfl (fun _ _ d _ _ h => by cases d <;> exact h) ?_ HS.out ?_; rotate_left; (· intro V hV; obtain ⟨q0, q1, q2⟩ := HFX.out V hV; clear hV; go_simp; rfl); (intro K' hK'; go_simp; refine hK' _ ?_; clear hK' K')) | (refine LeftL.take (v := undef) 6 rfl (by kernel_rfl) (fun _ _ d _ _ h => by cases d <;> exact h) (.inr ⟨rfl, rfl⟩) HS.out ?_; (intro K' hK'; go_simp; refine hK' _ ?_; clear hK' K'))
    first | (refine LeftL.run (v := ?_) 7 rfl (by kernel_rfl) rfl (fun _ _ d _ _ h => by cases d <;> exact h) ?_ HS.out ?_; rotate_left; (· intro V hV; obtain ⟨q0, q1, q2⟩ := HFX.out V hV; clear hV; go_simp; rfl); (intro K' hK'; go_simp; refine hK' _ ?_; clear hK' K')) | (refine LeftL.runG (v := ?_) 7 rfl (by kernel_rfl) rfl (fun _ _ d _ _ h => by cases d <;> exact h) ?_ HS.out ?_; rotate_left; (· intro V hV; obtain ⟨q0, q1, q2⟩ := HFX.out V hV; clear hV; go_simp; rfl); (intro K' hK'; go_simp; refine hK' _ ?_; clear hK' K')) | (refine LeftL.take (v := undef) 7 rfl (by kernel_rfl) (fun _ _ d _ _ h => by cases d <;> exact h) (.inr ⟨rfl, rfl⟩) HS.out ?_; (intro K' hK'; go_simp; refine hK' _ ?_; clear hK' K'))
    first | (refine LeftL.run (v := ?_) 8 rfl (by kernel_rfl) rfl (fun _ _ d _ _ h => by cases d <;> exact h) ?_ HS.out ?_; rotate_left; (· intro V hV; obtain ⟨q0, q1, q2⟩ := HFX.out V hV; clear hV; go_simp; rfl); (intro K' hK'; go_simp; refine hK' _ ?_; clear hK' K')) | (refine LeftL.runG (v := ?_) 8 rfl (by kernel_rfl) rfl (fun _ _ d _ _ h => by cases d <;> exact h) ?_ HS.out ?_; rotate_left; (· intro V hV; obtain ⟨q0, q1, q2⟩ := HFX.out V hV; clear hV; go_simp; rfl); (intro K' hK'; go_simp; refine hK' _ ?_; clear hK' K')) | (refine LeftL.take (v := undef) 8 rfl (by kernel_rfl) (fun _ _ d _ _ h => by cases d <;> exact h) (.inr ⟨rfl, rfl⟩) HS.out ?_; (intro K' hK'; go_simp; refine hK' _ ?_; clear hK' K'))
    first | (refine LeftL.run (v := ?_) 9 rfl (by kernel_rfl) rfl (fun _ _ d _ _ h => by cases d <;> exact h) ?_ HS.out ?_; rotate_left; (· intro V hV; obtain ⟨q0, q1, q2⟩ := HFX.out V hV; clear hV; go_simp; rfl); (intro K' hK'; go_simp; refine hK' _ ?_; clear hK' K')) | (refine LeftL.runG (v := ?_) 9 rfl (by kernel_rfl) rfl (fun _ _ d _ _ h => by cases d <;> exact h) ?_ HS.out ?_; rotate_left; (· intro V hV; obtain ⟨q0, q1, q2⟩ := HFX.out V hV; clear hV; go_simp; rfl); (intro K' hK'; go_simp; refine hK' _ ?_; clear hK' K')) | (refine LeftL.take (v := undef) 9 rfl (by kernel_rfl) (fun _ _ d _ _ h => by cases d <;> exact h) (.inr ⟨rfl, rfl⟩) HS.out ?_; (intro K' hK'; go_simp; refine hK' _ ?_; clear hK' K'))
    first | (refine LeftL.run (v := ?_) 10 rfl (by kernel_rfl) rfl (fun _ _ d _ _ h => by cases d <;> exact h) ?_ HS.out ?_; rotate_left; (· intro V hV; obtain ⟨q0, q1, q2⟩ := HFX.out V hV; clear hV; go_simp; rfl); (intro K' hK'; go_simp; refine hK' _ ?_; clear hK' K')) | (refine LeftL.runG (v := ?_) 10 rfl (by kernel_rfl) rfl (fun _ _ d _ _ h => by cases d <;> exact h) ?_ HS.out ?_; rotate_left; (· intro V hV; obtain ⟨q0, q1, q2⟩ := HFX.out V hV; clear hV; go_simp; rfl); (intro K' hK'; go_simp; refine hK' _ ?_; clear hK' K')) | (refine LeftL.take (v := undef) 10 rfl (by kernel_rfl) (fun _ _ d _ _ h => by cases d <;> exact h) (.inr ⟨rfl, rfl⟩) HS.out ?_; (intro K' hK'; go_simp; refine hK' _ ?_; clear hK' K'))
    first | (refine LeftL.run (v := ?_) 11 rfl (by kernel_rfl) rfl (fun _ _ d _ _ h => by cases d <;> exact h) ?_ HS.out ?_; rotate_left; (· intro V hV; obtain ⟨q0, q1, q2⟩ := HFX.out V hV; clear hV; go_simp; rfl); (intro K' hK'; go_simp; refine hK' _ ?_; clear hK' K')) | (refine LeftL.runG (v := ?_) 11 rfl (by kernel_rfl) rfl (fun _ _ d _ _ h => by cases d <;> exact h) ?_ HS.out ?_; rotate_left; (· intro V hV; obtain ⟨q0, q1, q2⟩ := HFX.out V hV; clear hV; go_simp; rfl); (intro K' hK'; go_simp; refine hK' _ ?_; clear hK' K')) | (refine LeftL.take (v := undef) 11 rfl (by kernel_rfl) (fun _ _ d _ _ h => by cases d <;> exact h) (.inr ⟨rfl, rfl⟩) HS.out ?_; (intro K' hK'; go_simp; refine hK' _ ?_; clear hK' K'))
    refine LeftL.one 12 rfl (by kernel_rfl) ?_
    go_wp2_with fail
    refine (refin_fr from_ t0 te _).mono ?_; rintro e w1 ⟨rfl, hf1⟩
    have hS1 := HS.out.call hf1 HS.out.size (by simp)
    clear hf1 HS
    have HS := Lib.hid hS1
    clear hS1
    go_wp2_with fail
    first | refine ⟨fun _ => HS.out, ?_⟩ | refine ⟨HS.out, ?_⟩
    first | (refine LeftL.run (v := ?_) 13 rfl (by kernel_rfl) rfl (fun _ _ d _ _ h => by cases d <;> exact h) ?_ HS.out ?_; rotate_left; (· intro V hV; obtain ⟨q0, q1, q2⟩ := HFX.out V hV; clear hV; go_simp; rfl); (intro K' hK'; go_simp; refine hK' _ ?_; clear hK' K')) | (refine LeftL.runG (v := ?_) 13 rfl (by kernel_rfl) rfl (fun _ _ d _ _ h => by cases d <;> exact h) ?_ HS.out ?_; rotate_left; (· intro V hV; obtain ⟨q0, q1, q2⟩ := HFX.out V hV; clear hV; go_simp; rfl); (intro K' hK'; go_simp; refine hK' _ ?_; clear hK' K')) | (refine LeftL.take (v := undef) 13 rfl (by kernel_rfl) (fun _ _ d _ _ h => by cases d <;> exact h) (.inr ⟨rfl, rfl⟩) HS.out ?_; (intro K' hK'; go_simp; refine hK' _ ?_; clear hK' K'))
    refine LeftL.done (by kernel_rfl) ?_
    go_wp2_with fail
    go_meet
    case rel => exact ⟨rfl, HS.out⟩
  obtain ⟨rfl, hfc⟩ := hcut
  have hf := HF.out.call hfc HF.out.size (by simp)
  have k0 := hfc.blk K0.out K0.out.lt (by simp)
  have hfx2 : ∀ V, Frm wc.heap.size [] wc V → V.cell? ⟨b, off + nm * 2, none⟩ = some (.int .i64 te) := fun V hV => (HFX.out V (hfc.call hV hfc.size (by simp))).2.2
  clear hfc HF K0 HFX
  have K0 := Lib.hid k0
  have HF := Lib.hid hf
  have HFX := Lib.hid hfx2
  clear hfx2 hf k0
  cases hin : inB from_ t0 te
  · rw [hin] at hinr
    have HIN := Lib.hid hin
    have HINR := Lib.hid hinr
    clear hinr hin
    go_wp2_with fail
    refine bodyPost_ret (v := .tuple #[.int .i64 0, .int .i64 0, .int .i64 4]) (by simp [results, Tryd.results28, go_sem]) rfl ?_
    exact ⟨HF.out, .inr (.inl ⟨by rw [HTB.out, HGB.out]; rfl, HINR.out, rfl⟩)⟩
  rw [hin] at hinr
  have hib := inB_iff.1 hinr
  have htm := (HTT.out.ok 0 (by have := H1.out; omega)).time
  have hte1 := (HTT.out.ok (n - 1) (by have := H1.out; omega)).time
  have hb0 : 0 ≤ from_ ∧ from_ ≤ 10000000 := by omega
  obtain ⟨O, hO⟩ : ∃ O, O = offAt g n T := ⟨_, rfl⟩
  have HIN := Lib.hid hin
  have HINR := Lib.hid hinr
  have HIB := Lib.hid hib
  have HTM := Lib.hid htm
  have HTE1 := Lib.hid hte1
  have HB0 := Lib.hid hb0
  have HO := Lib.hid hO
  clear hO hb0 hte1 htm hib hinr hin
  go_wp2_with fail
  go_loopw [9, 10, 11] (fun s9 s10 s11 wr => ∃ (i : Nat) (fi : Int), s11 = .int .i64 i ∧ i ≤ n ∧ s9 = .int .i64 fi ∧ s10 = .int .i64 (atF T from_ i) ∧ ((fi = -1 ∧ NotYet O T from_ i) ∨ ∃ l, Since O T from_ i fi l) ∧ Frm wc.heap.size [] wc wr) (fun _ _ s11 _ => n - (intOf s11).toNat)
  case atStart => exact ⟨0, -1, rfl, Nat.zero_le _, rfl, rfl, .inl ⟨rfl, ⟨fun h => absurd h (by omega)⟩⟩, Frm.refl _ _ _⟩
  case round =>
    obtain ⟨i, fi, rfl, hi, rfl, rfl, hst, hfr⟩ := hrel
    by_cases hin2 : i < n
    rotate_left
    · -- the end
      have hin2' : ¬ (i : Int) < (n : Int) := by omega
      obtain rfl : i = n := by omega
      have hi0 : 0 < i := by have := H1.out; omega
      rcases hst with ⟨rfl, hny⟩ | ⟨l, hs⟩
      · have hnev : Never (offAt g i T) from_ (T (i - 1)).1 := by rw [← HO.out]; exact fun t h1 h2 => hny.no hi0 t h1 h2
        clear hny
        have HNEV := Lib.hid hnev
        have HFR := Lib.hid hfr
        have HI0 := Lib.hid hi0
        clear hi0 hfr hnev
        go_wp2_with fail
        refine bodyPost_ret (v := .tuple #[.int .i64 0, .int .i64 0, .int .i64 7]) (by simp [results, Tryd.results28, go_sem]) rfl ?_
        exact ⟨HF.out.call HFR.out HF.out.size (by simp), .inr (.inr ⟨by rw [HTB.out, HGB.out]; rfl, HINR.out, .inl ⟨HNEV.out, rfl⟩⟩)⟩
      · have hl := hs.last
        have hsp : Span (offAt g i T) from_ (T (i - 1)).1 fi te := by
          rw [← HO.out, HTE.out, ← hl]
          exact ⟨hs.lo, hs.mid, Int.le_refl _, hs.no, hs.yes, fun h => absurd h (by omega)⟩
        have hfi0 : ¬ fi < 0 := by have := hs.lo; have := HB0.out; omega
        have hfd : decide (fi < 0) = false := by simp; omega
        obtain q1 := HFX.out wr hfr
        clear hs hl
        have HSP := Lib.hid hsp
        have HFR := Lib.hid hfr
        have HI0 := Lib.hid hi0
        clear hi0 hfr hsp
        go_upto_region 20 with fail
        have hfy : ∀ V, Frm wr.heap.size [] wr V → V.cell? ⟨b, off + nm * 2, none⟩ = some (.int .i64 te) := fun V hV => HFX.out V (HFR.out.call hV HFR.out.size (by simp))
        clear HFX q1
        have HFX := Lib.hid hfy
        clear hfy
        refine wp_region_leftL (fun V => Frm wr.heap.size [] wr V) 1000 (by kernel_rfl) ?_
        have hS : Frm wr.heap.size [] wr wr.drew := (Frm.refl _ _ wr).drew
        have HS := Lib.hid hS
        clear hS
        first | (refine LeftL.run (v := ?_) 0 rfl (by kernel_rfl) rfl (fun _ _ d _ _ h => by cases d <;> exact h) ?_ HS.out ?_; rotate_left; (· intro V hV; obtain q1 := HFX.out V hV; clear hV; go_simp; rfl); (intro K' hK'; go_simp; refine hK' _ ?_; clear hK' K')) | (refine LeftL.runG (v := ?_) 0 rfl (by kernel_rfl) rfl (fun _ _ d _ _ h => by cases d <;> exact h) ?_ HS.out ?_; rotate_left; (· intro V hV; obtain q1 := HFX.out V hV; clear hV; go_simp; rfl); (intro K' hK'; go_simp; refine hK' _ ?_; clear hK' K')) | (refine LeftL.take (v := undef) 0 rfl (by kernel_rfl) (fun _ _ d _ _ h => by cases d <;> exact h) (.inr ⟨rfl, rfl⟩) HS.out ?_; (intro K' hK'; go_simp; refine hK' _ ?_; clear hK' K'))
        first | (refine LeftL.run (v := ?_) 1 rfl (by kernel_rfl) rfl (fun _ _ d _ _ h => by cases d <;> exact h) ?_ HS.out ?_; rotate_left; (· intro V hV; obtain q1 := HFX.out V hV; clear hV; go_simp; rfl); (intro K' hK'; go_simp; refine hK' _ ?_; clear hK' K')) | (refine LeftL.runG (v := ?_) 1 rfl (by kernel_rfl) rfl (fun _ _ d _ _ h => by cases d <;> exact h) ?_ HS.out ?_; rotate_left; (· intro V hV; obtain q1 := HFX.out V hV; clear hV; go_simp; rfl); (intro K' hK'; go_simp; refine hK' _ ?_; clear hK' K')) | (refine LeftL.take (v := undef) 1 rfl (by kernel_rfl) (fun _ _ d _ _ h => by cases d <;> exact h) (.inr ⟨rfl, rfl⟩) HS.out ?_; (intro K' hK'; go_simp; refine hK' _ ?_; clear hK' K'))
        first | (refine LeftL.run (v := ?_) 2 rfl (by kernel_rfl) rfl (fun _ _ d _ _ h => by cases d <;> exact h) ?_ HS.out ?_; rotate_left; (· intro V hV; obtain q1 := HFX.out V hV; clear hV; go_simp; rfl); (intro K' hK'; go_simp; refine hK' _ ?_; clear hK' K')) | (refine LeftL.runG (v := ?_) 2 rfl (by kernel_rfl) rfl (fun _ _ d _ _ h => by cases d <;> exact h) ?_ HS.out ?_; rotate_left; (· intro V hV; obtain q1 := HFX.out V hV; clear hV; go_simp; rfl); (intro K' hK'; go_simp; refine hK' _ ?_; clear hK' K')) | (refine LeftL.take (v := undef) 2 rfl (by kernel_rfl) (fun _ _ d _ _ h => by cases d <;> exact h) (.inr ⟨rfl, rfl⟩) HS.out ?_; (intro K' hK'; go_simp; refine hK' _ ?_; clear hK' K'))
        first | (refine LeftL.run (v := ?_) 3 rfl (by kernel_rfl) rfl (fun _ _ d _ _ h => by cases d <;> exact h) ?_ HS.out ?_; rotate_left; (· intro V hV; obtain q1 := HFX.out V hV; clear hV; go_simp; rfl); (intro K' hK'; go_simp; refine hK' _ ?_; clear hK' K')) | (refine LeftL.runG (v := ?_) 3 rfl (by kernel_rfl) rfl (fun _ _ d _ _ h => by cases d <;> exact h) ?_ HS.out ?_; rotate_left; (· intro V hV; obtain q1 := HFX.out V hV; clear hV; go_simp; rfl); (intro K' hK'; go_simp; refine hK' _ ?_; clear hK' K')) | (refine LeftL.take (v := undef) 3 rfl (by kernel_rfl) (fun _ _ d _ _ h => by cases d <;> exact h) (.inr ⟨rfl, rfl⟩) HS.out ?_; (intro K' hK'; go_simp; refine hK' _ ?_; clear hK' K'))
        first | (refine LeftL.run (v := ?_) 4 rfl (by kernel_rfl) rfl (fun _ _ d _ _ h => by cases d <;> exact h) ?_ HS.out ?_; rotate_left; (· intro V hV; obtain q1 := HFX.out V hV; clear hV; go_simp; rfl); (intro K' hK'; go_simp; refine hK' _ ?_; clear hK' K')) | (refine LeftL.runG (v := ?_) 4 rfl (by kernel_rfl) rfl (fun _ _ d _ _ h => by cases d <;> exact h) ?_ HS.out ?_; rotate_left; (· intro V hV; obtain q1 := HFX.out V hV; clear hV; go_simp; rfl); (intro K' hK'; go_simp; refine hK' _ ?_; clear hK' K')) | (refine LeftL.take (v := undef) 4 rfl (by kernel_rfl) (fun _ _ d _ _ h => by cases d <;> exact h) (.inr ⟨rfl, rfl⟩) HS.out ?_; (intro K' hK'; go_simp; refine hK' _ ?_; clear hK' K'))
        first | (refine LeftL.run (v := ?_) 5 rfl (by kernel_rfl) rfl (fun _ _ d _ _ h => by cases d <;> exact h) ?_ HS.out ?_; rotate_left; (· intro V hV; obtain q1 := HFX.out V hV; clear hV; go_simp; rfl); (intro K' hK'; go_simp; refine hK' _ ?_; clear hK' K')) | (refine LeftL.runG (v := ?_) 5 rfl (by kernel_rfl) rfl (fun _ _ d _ _ h => by cases d <;> exact h) ?_ HS.out ?_; rotate_left; (· intro V hV; obtain q1 := HFX.out V hV; clear hV; go_simp; rfl); (intro K' hK'; go_simp; refine hK' _ ?_; clear hK' K')) | (refine LeftL.take (v := undef) 5 rfl (by kernel_rfl) (fun _ _ d _ _ h => by cases d <;> exact h) (.inr ⟨rfl, rfl⟩) HS.out ?_; (intro K' hK'; go_simp; refine hK' _ ?_; clear hK' K'))
        first | (refine LeftL.run (v := ?_) 6 rfl (by kernel_rfl) rfl (fun _ _ d _ _ h => by cases d <;> exact h) ?_ HS.out ?_; rotate_left; (· intro V hV; obtain q1 := HFX.out V hV; clear hV; go_simp; rfl); (intro K' hK'; go_simp; refine hK' _ ?_; clear hK' K')) | (refine LeftL.runG (v := ?_) 6 rfl (by kernel_rfl) rfl (fun _ _ d _ _ h => by cases d <;> exact h) ?_ HS.out ?_; rotate_left; (· intro V hV; obtain q1 := HFX.out V hV; clear hV; go_simp; rfl); (intro K' hK'; go_simp; refine hK' _ ?_; clear hK' K')) | (refine LeftL.take (v := undef) 6 rfl (by kernel_rfl) (fun _ _ d _ _ h => by cases d <;> exact h) (.inr ⟨rfl, rfl⟩) HS.out ?_; (intro K' hK'; go_simp; refine hK' _ ?_; clear hK' K'))
        first | (refine LeftL.run (v := ?_) 7 rfl (by kernel_rfl) rfl (fun _ _ d _ _ h => by cases d <;> exact h) ?_ HS.out ?_; rotate_left; (· intro V hV; obtain q1 := HFX.out V hV; clear hV; go_simp; rfl); (intro K' hK'; go_simp; refine hK' _ ?_; clear hK' K')) | (refine LeftL.runG (v := ?_) 7 rfl (by kernel_rfl) rfl (fun _ _ d _ _ h => by cases d <;> exact h) ?_ HS.out ?_; rotate_left; (· intro V hV; obtain q1 := HFX.out V hV; clear hV; go_simp; rfl); (intro K' hK'; go_simp; refine hK' _ ?_; clear hK' K')) | (refine LeftL.take (v := undef) 7 rfl (by kernel_rfl) (fun _ _ d _ _ h => by cases d <;> exact h) (.inr ⟨rfl, rfl⟩) HS.out ?_; (intro K' hK'; go_simp; refine hK' _ ?_; clear hK' K'))
        refine LeftL.one 8 rfl (by kernel_rfl) ?_
        go_wp2_with fail
        first | refine ⟨fun _ => HS.out, ?_⟩ | refine ⟨HS.out, ?_⟩
        refine LeftL.one 9 rfl (by kernel_rfl) ?_
        go_wp2_with fail
        first | refine ⟨fun _ => HS.out, ?_⟩ | refine ⟨HS.out, ?_⟩
        refine LeftL.one 10 rfl (by kernel_rfl) ?_
        go_wp2_with fail
        first | refine ⟨fun _ => HS.out, ?_⟩ | refine ⟨HS.out, ?_⟩
        refine LeftL.done (by kernel_rfl) ?_
        go_wp2_with fail
        refine bodyPost_ret (v := .tuple #[.int .i64 fi, .int .i64 te, .int .i64 0]) (by simp [results, Tryd.results28, go_sem]) rfl ?_
        exact ⟨HF.out.call (HFR.out.call HS.out HFR.out.size (by simp)) HF.out.size (by simp), .inr (.inr ⟨by rw [HTB.out, HGB.out]; rfl, HINR.out, .inr ⟨fi, te, HSP.out, rfl⟩⟩)⟩
    have hin2' : (i : Int) < (n : Int) := by omega
    have hms := meas_up hin2
    obtain ⟨w4, w5x⟩ := wrapUp hin2 HR.out.len
    obtain ⟨x, hx⟩ : ∃ x, x = (T i).1 := ⟨_, rfl⟩
    have q1 : wr.cell? ⟨b, off + i * 2, none⟩ = some (.int .i64 x) := by
      have := (HR.out.frm (HF.out.call hfr HF.out.size (by simp)) (Nat.le_refl _)).at_ i hin2 0 _ rfl
      rw [hx]
      simpa [tpC] using this
    have hxe : x ≤ te := by rw [hx, HTE.out]; exact HTT.out.le (by omega) (by have := H1.out; omega)
    have hx0 : t0 ≤ x := by rw [hx, HT0.out]; exact HTT.out.le (by omega) hin2
    have hb0 := HB0.out
    have hib2 := HIB.out
    rw [← HT0.out, ← HTE.out] at hib2
    by_cases hsk : x < from_
    · -- this piece is over
      have hskd : decide (x < from_) = true := by simp [hsk]
      rcases hst with ⟨rfl, hny⟩ | ⟨l, hs⟩
      rotate_left
      · exfalso
        have h1 := hs.lo
        have h2 := hs.mid
        have h3 := hs.last
        have h4 := HTT.out.lt (i := i - 1) (j := i) (by have := hs.pos; omega) hin2
        omega
      have hny2 : NotYet O T from_ (i + 1) := notYet_skip hny (by rw [← hx]; exact hsk)
      have hat : atF T from_ (i + 1) = atF T from_ i := atF_skip HTT.out hin2 (by rw [← hx]; exact hsk)
      obtain ⟨a, ha⟩ : ∃ a, a = atF T from_ i := ⟨_, rfl⟩
      rw [← ha] at hat ⊢
      clear hny hib2 hb0 hxe hx0
      have HNY := Lib.hid hny2
      have HAT := Lib.hid hat
      have HA := Lib.hid ha
      have HFR := Lib.hid hfr
      have HIN2 := Lib.hid hin2
      have HMS := Lib.hid hms
      have HX := Lib.hid hx
      clear hx hms hin2 hfr ha hat hny2
      go_wp2_with fail
      (try simp only [w4, w5x])
      first | exact ⟨⟨i + 1, -1, by simp, HIN2.out, rfl, by rw [HAT.out], .inl ⟨rfl, HNY.out⟩, HFR.out⟩, HMS.out⟩ | (refine ⟨?_, HMS.out⟩; (repeat apply Exists.intro); refine ⟨?_, rfl⟩; exact ⟨i + 1, -1, by simp, HIN2.out, rfl, by rw [HAT.out], .inl ⟨rfl, HNY.out⟩, HFR.out⟩)
    have hsk' : from_ ≤ x := by omega
    obtain ⟨a, ha⟩ : ∃ a, a = atF T from_ i := ⟨_, rfl⟩
    rw [← ha]
    have hat : atF T from_ (i + 1) = x := by show max from_ (T i).1 = x; rw [← hx]; omega
    have hpa : from_ ≤ a ∧ a ≤ x ∧ (a ≤ from_ ∨ (0 < i ∧ a ≤ (T (i - 1)).1)) ∧ (T (i - 1)).1 ≤ a ∧ (0 < i → a = max from_ (T (i - 1)).1) := by
      have := atF_facts HTT.out hin2 (from_ := from_) (by rw [← HT0.out]; exact hib2.1) (by rw [← hx]; exact hsk')
      rw [← ha, ← hx] at this
      exact this
    have hpc : Piece O (offT g (T (i - 1)) (T i)) T from_ i a x te := ⟨offT_line _ _ _, fun t h3 h4 => by rw [HO.out]; exact offAt_piece HTT.out hin2 (by omega) (by rw [← hx]; exact h4), hpa.1, hpa.2.1, hpa.2.2.1, hx, hxe⟩
    have hax : a ≤ x := hpa.2.1
    have hTa : (T 0).1 ≤ a ∧ a ≤ (T (n - 1)).1 := by rw [← HT0.out, ← HTE.out]; omega
    have hTx : (T 0).1 ≤ x ∧ x ≤ (T (n - 1)).1 := by rw [← HT0.out, ← HTE.out]; omega
    have hoa := fun V (hV : Frm wc.heap.size [] wc V) => refOff_any g HGG.out (some ⟨b, off, none⟩) b off n cap T HTT.out a hTa.1 hTa.2 V (HR.out.frm (HF.out.call hV HF.out.size (by simp)) (Nat.le_refl _))
    have hox := fun V (hV : Frm wc.heap.size [] wc V) => refOff_any g HGG.out (some ⟨b, off, none⟩) b off n cap T HTT.out x hTx.1 hTx.2 V (HR.out.frm (HF.out.call hV HF.out.size (by simp)) (Nat.le_refl _))
    have hlo := fun V (hV : Frm wc.heap.size [] wc V) => load_gr (hV.blk K0.out K0.out.lt (by simp))
    rw [← HO.out] at hoa hox
    have htu : ∀ (is : Bool), (O x == is) = true → (∀ y z, a ≤ y → y ≤ z → z ≤ x → (O y == is) = true → (O z == is) = true) → ∀ V, Frm wc.heap.size [] wc V → Calls Tryd.prog 64 #[.agg g.cells.toArray, .slice (some ⟨b, off, none⟩) n cap, .int .i64 a, .int .i64 x, .bool is] V fun e w' => (∃ r : Int, e = .returned (.int .i64 r) ∧ Turn (fun t => O t == is) a x r) ∧ Frm V.heap.size [] V w' := fun is h3 h4 V hV => by
      rw [HO.out] at h3 h4 ⊢
      exact turn_any g HGG.out (some ⟨b, off, none⟩) b off n cap T HTT.out a x is hTa.1 hax hTx.2 h3 h4 V (HR.out.frm (HF.out.call hV HF.out.size (by simp)) (Nat.le_refl _))
    have hskd : decide (x < from_) = false := by simp [hsk]
    have hab : 0 ≤ a ∧ x ≤ 10000000 := by have := HTE1.out; have := HTE.out; omega
    obtain ⟨oa, hoan⟩ : ∃ o, o = O a := ⟨_, rfl⟩
    obtain ⟨ox, hoxn⟩ : ∃ o, o = O x := ⟨_, rfl⟩
    rw [← hoan] at hoa
    rw [← hoxn] at hox
    have hal : ∀ l, Since O T from_ i fi l → a = l := fun l hs => by
      have h3 := hpa.2.2.2.2 hs.pos
      have h4 := hs.last
      have h5 := hs.lo
      have h6 := hs.mid
      omega
    clear hTa hTx hpa hib2 hb0 hxe hx0
    rcases hst with ⟨rfl, hny⟩ | ⟨l, hs⟩
    · have hm1 : decide ((-1 : Int) < 0) = true := by decide
      cases oa
      · cases ox
        · -- not yet
          have hny2 := piece_c hpc hny hoan.symm hoxn.symm
          clear hny hpc htu hal
          have HNY := Lib.hid hny2
          have HAT := Lib.hid hat
          have HA := Lib.hid ha
          have HFR := Lib.hid hfr
          have HIN2 := Lib.hid hin2
          have HMS := Lib.hid hms
          have HX := Lib.hid hx
          have HOA := Lib.hid hoa
          have HOX := Lib.hid hox
          have HLO := Lib.hid hlo
          have HOAN := Lib.hid hoan
          have HOXN := Lib.hid hoxn
          have HAB := Lib.hid hab
          have HAX := Lib.hid hax
          have HSK := Lib.hid hsk
          have HSK2 := Lib.hid hsk'
          clear hsk' hsk hax hab hoxn hoan hlo hox hoa hx hms hin2 hfr ha hat hny2
          go_wp2_with (first | (with_reducible refine atLoad 52 rfl ?_; refine wpList_loadGE rfl rfl rfl (HLO.out _ HFR.out) ?_) | (go_at_call 31; first | (with_reducible refine (HOA.out _ HFR.out).mono ?_; rintro e1 w5 ⟨rfl, hf1⟩; replace HFR := Lib.hid (HFR.out.call hf1 HFR.out.size (by simp)); clear hf1) | (with_reducible refine (HOX.out _ HFR.out).mono ?_; rintro e1 w5 ⟨rfl, hf1⟩; replace HFR := Lib.hid (HFR.out.call hf1 HFR.out.size (by simp)); clear hf1)))
          (try simp only [w4, w5x])
          first | exact ⟨⟨i + 1, -1, by simp, HIN2.out, rfl, by rw [HAT.out], .inl ⟨rfl, HNY.out⟩, HFR.out⟩, HMS.out⟩ | (refine ⟨?_, HMS.out⟩; (repeat apply Exists.intro); refine ⟨?_, rfl⟩; exact ⟨i + 1, -1, by simp, HIN2.out, rfl, by rw [HAT.out], .inl ⟨rfl, HNY.out⟩, HFR.out⟩)
        · -- from some time on
          have htu := htu true (by rw [← hoxn]; rfl) (fun y z h1 h2 h3 h4 => by
            have := piece_up hpc hoan.symm hoxn.symm y z h1 h2 h3 (by simpa using h4)
            simpa using this)
          have hb := fun r => piece_b (r := r) hpc hny hoan.symm hoxn.symm
          clear hny hpc hal
          have HBB := Lib.hid hb
          have HAT := Lib.hid hat
          have HA := Lib.hid ha
          have HFR := Lib.hid hfr
          have HIN2 := Lib.hid hin2
          have HMS := Lib.hid hms
          have HX := Lib.hid hx
          have HOA := Lib.hid hoa
          have HOX := Lib.hid hox
          have HLO := Lib.hid hlo
          have HOAN := Lib.hid hoan
          have HOXN := Lib.hid hoxn
          have HAB := Lib.hid hab
          have HAX := Lib.hid hax
          have HSK := Lib.hid hsk
          have HSK2 := Lib.hid hsk'
          have HTU := Lib.hid htu
          clear htu hsk' hsk hax hab hoxn hoan hlo hox hoa hx hms hin2 hfr ha hat hb
          go_wp2_with (first | (go_at_call 64; refine hold ?_; intro qG hG) | (first | (with_reducible refine atLoad 52 rfl ?_; refine wpList_loadGE rfl rfl rfl (HLO.out _ HFR.out) ?_) | (go_at_call 31; first | (with_reducible refine (HOA.out _ HFR.out).mono ?_; rintro e1 w5 ⟨rfl, hf1⟩; replace HFR := Lib.hid (HFR.out.call hf1 HFR.out.size (by simp)); clear hf1) | (with_reducible refine (HOX.out _ HFR.out).mono ?_; rintro e1 w5 ⟨rfl, hf1⟩; replace HFR := Lib.hid (HFR.out.call hf1 HFR.out.size (by simp)); clear hf1))))
          refine hG.1 ?_; clear hG qG
          refine (HTU.out _ HFR.out).mono ?_; rintro e1 w5 ⟨⟨r, rfl, htr⟩, hf1⟩
          replace HFR := Lib.hid (HFR.out.call hf1 HFR.out.size (by simp))
          have hr0 : ¬ r < 0 := by have := htr.lo; have := HAB.out; omega
          have hr1 : decide (r < 0) = false := by simp; omega
          have hr2 : decide (0 ≤ r) = true := by simp; omega
          have hr3 : 0 ≤ r := by omega
          have hsn := HBB.out r htr
          clear hf1 htr
          have HSN := Lib.hid hsn
          clear hsn
          go_wp2_with (first | (with_reducible refine atLoad 52 rfl ?_; refine wpList_loadGE rfl rfl rfl (HLO.out _ HFR.out) ?_) | (go_at_call 31; first | (with_reducible refine (HOA.out _ HFR.out).mono ?_; rintro e1 w5 ⟨rfl, hf1⟩; replace HFR := Lib.hid (HFR.out.call hf1 HFR.out.size (by simp)); clear hf1) | (with_reducible refine (HOX.out _ HFR.out).mono ?_; rintro e1 w5 ⟨rfl, hf1⟩; replace HFR := Lib.hid (HFR.out.call hf1 HFR.out.size (by simp)); clear hf1)))
          (try simp only [w4, w5x])
          first | exact ⟨⟨i + 1, r, by simp, HIN2.out, rfl, by rw [HAT.out], .inr ⟨_, HSN.out⟩, HFR.out⟩, HMS.out⟩ | (refine ⟨?_, HMS.out⟩; (repeat apply Exists.intro); refine ⟨?_, rfl⟩; exact ⟨i + 1, r, by simp, HIN2.out, rfl, by rw [HAT.out], .inr ⟨_, HSN.out⟩, HFR.out⟩)
      · have ha0 : ¬ a < 0 := by omega
        have ha1 : decide (a < 0) = false := by simp; omega
        have ha2 : decide (0 ≤ a) = true := by simp; omega
        have ha3 : 0 ≤ a := by omega
        cases ox
        · -- up to some time
          have htu := htu false (by rw [← hoxn]; rfl) (fun y z h1 h2 h3 h4 => by
            have := piece_down hpc hoan.symm hoxn.symm y z h1 h2 h3 (by simpa using h4)
            simpa using this)
          have hb := fun r => piece_an (r := r) hpc hny hoan.symm
          have hmx : max a a = a := by omega
          clear hny hpc hal
          have HBB := Lib.hid hb
          have HAT := Lib.hid hat
          have HA := Lib.hid ha
          have HFR := Lib.hid hfr
          have HIN2 := Lib.hid hin2
          have HMS := Lib.hid hms
          have HX := Lib.hid hx
          have HOA := Lib.hid hoa
          have HOX := Lib.hid hox
          have HLO := Lib.hid hlo
          have HOAN := Lib.hid hoan
          have HOXN := Lib.hid hoxn
          have HAB := Lib.hid hab
          have HAX := Lib.hid hax
          have HSK := Lib.hid hsk
          have HSK2 := Lib.hid hsk'
          have HTU := Lib.hid htu
          clear htu hsk' hsk hax hab hoxn hoan hlo hox hoa hx hms hin2 hfr ha hat hb
          go_wp2_with (first | (go_at_call 64; refine hold ?_; intro qG hG) | (first | (with_reducible refine atLoad 52 rfl ?_; refine wpList_loadGE rfl rfl rfl (HLO.out _ HFR.out) ?_) | (go_at_call 31; first | (with_reducible refine (HOA.out _ HFR.out).mono ?_; rintro e1 w5 ⟨rfl, hf1⟩; replace HFR := Lib.hid (HFR.out.call hf1 HFR.out.size (by simp)); clear hf1) | (with_reducible refine (HOX.out _ HFR.out).mono ?_; rintro e1 w5 ⟨rfl, hf1⟩; replace HFR := Lib.hid (HFR.out.call hf1 HFR.out.size (by simp)); clear hf1))))
          refine hG.1 ?_; clear hG qG
          refine (HTU.out _ HFR.out).mono ?_; rintro e1 w5 ⟨⟨r, rfl, htr⟩, hf1⟩
          replace HFR := Lib.hid (HFR.out.call hf1 HFR.out.size (by simp))
          have e1 : IntKind.i64.wrap (r - 1) = r - 1 := IntWalk.i64_in _ (by have := htr.lo; have := htr.hi; have := HAB.out; omega)
          have e2 : wrap64 (r - 1) = r - 1 := IntWalk.wrap64_in _ (by have := htr.lo; have := htr.hi; have := HAB.out; omega)
          have hsn := HBB.out r htr
          clear hf1 htr
          have HSN := Lib.hid hsn
          clear hsn
          go_wp2_with fail
          refine bodyPost_ret (v := .tuple #[.int .i64 a, .int .i64 (r - 1), .int .i64 0]) (by simp [results, Tryd.results28, go_sem]) rfl ?_
          exact ⟨HF.out.call HFR.out HF.out.size (by simp), .inr (.inr ⟨by rw [HTB.out, HGB.out]; rfl, HINR.out, .inr ⟨a, r - 1, by rw [← HO.out, ← HTE.out]; exact HSN.out, rfl⟩⟩)⟩
        · -- all of the piece
          have hsn := piece_ay hpc hny hoan.symm hoxn.symm
          clear hny hpc htu hal
          have HSN := Lib.hid hsn
          have HAT := Lib.hid hat
          have HA := Lib.hid ha
          have HFR := Lib.hid hfr
          have HIN2 := Lib.hid hin2
          have HMS := Lib.hid hms
          have HX := Lib.hid hx
          have HOA := Lib.hid hoa
          have HOX := Lib.hid hox
          have HLO := Lib.hid hlo
          have HOAN := Lib.hid hoan
          have HOXN := Lib.hid hoxn
          have HAB := Lib.hid hab
          have HAX := Lib.hid hax
          have HSK := Lib.hid hsk
          have HSK2 := Lib.hid hsk'
          clear hsk' hsk hax hab hoxn hoan hlo hox hoa hx hms hin2 hfr ha hat hsn
          go_wp2_with (first | (with_reducible refine atLoad 52 rfl ?_; refine wpList_loadGE rfl rfl rfl (HLO.out _ HFR.out) ?_) | (go_at_call 31; first | (with_reducible refine (HOA.out _ HFR.out).mono ?_; rintro e1 w5 ⟨rfl, hf1⟩; replace HFR := Lib.hid (HFR.out.call hf1 HFR.out.size (by simp)); clear hf1) | (with_reducible refine (HOX.out _ HFR.out).mono ?_; rintro e1 w5 ⟨rfl, hf1⟩; replace HFR := Lib.hid (HFR.out.call hf1 HFR.out.size (by simp)); clear hf1)))
          (try simp only [w4, w5x])
          first | exact ⟨⟨i + 1, a, by simp, HIN2.out, rfl, by rw [HAT.out], .inr ⟨_, HSN.out⟩, HFR.out⟩, HMS.out⟩ | (refine ⟨?_, HMS.out⟩; (repeat apply Exists.intro); refine ⟨?_, rfl⟩; exact ⟨i + 1, a, by simp, HIN2.out, rfl, by rw [HAT.out], .inr ⟨_, HSN.out⟩, HFR.out⟩)
    · have hal := hal l hs
      have hf0 : ¬ fi < 0 := by have := hs.lo; have := HB0.out; omega
      have hf1' : decide (fi < 0) = false := by simp; omega
      have hf2' : decide (0 ≤ fi) = true := by simp; omega
      have hf3' : 0 ≤ fi := by omega
      cases ox
      · have hoat : O a = true := by rw [hal]; exact hs.yes l hs.mid (Int.le_refl _)
        have htu := htu false (by rw [← hoxn]; rfl) (fun y z h1 h2 h3 h4 => by
            have := piece_down hpc hoat hoxn.symm y z h1 h2 h3 (by simpa using h4)
            simpa using this)
        have hb := fun r => piece_dn (r := r) hpc hs hal
        have hmx : max a fi = a := by have := hs.mid; omega
        clear hs hpc hal hoat
        have HBB := Lib.hid hb
        have HAT := Lib.hid hat
        have HA := Lib.hid ha
        have HFR := Lib.hid hfr
        have HIN2 := Lib.hid hin2
        have HMS := Lib.hid hms
        have HX := Lib.hid hx
        have HOA := Lib.hid hoa
        have HOX := Lib.hid hox
        have HLO := Lib.hid hlo
        have HOAN := Lib.hid hoan
        have HOXN := Lib.hid hoxn
        have HAB := Lib.hid hab
        have HAX := Lib.hid hax
        have HSK := Lib.hid hsk
        have HSK2 := Lib.hid hsk'
        have HTU := Lib.hid htu
        clear htu hsk' hsk hax hab hoxn hoan hlo hox hoa hx hms hin2 hfr ha hat hb
        go_wp2_with (first | (go_at_call 64; refine hold ?_; intro qG hG) | (first | (with_reducible refine atLoad 52 rfl ?_; refine wpList_loadGE rfl rfl rfl (HLO.out _ HFR.out) ?_) | (go_at_call 31; first | (with_reducible refine (HOA.out _ HFR.out).mono ?_; rintro e1 w5 ⟨rfl, hf1⟩; replace HFR := Lib.hid (HFR.out.call hf1 HFR.out.size (by simp)); clear hf1) | (with_reducible refine (HOX.out _ HFR.out).mono ?_; rintro e1 w5 ⟨rfl, hf1⟩; replace HFR := Lib.hid (HFR.out.call hf1 HFR.out.size (by simp)); clear hf1))))
        refine hG.1 ?_; clear hG qG
        refine (HTU.out _ HFR.out).mono ?_; rintro e1 w5 ⟨⟨r, rfl, htr⟩, hf1⟩
        replace HFR := Lib.hid (HFR.out.call hf1 HFR.out.size (by simp))
        have e1 : IntKind.i64.wrap (r - 1) = r - 1 := IntWalk.i64_in _ (by have := htr.lo; have := htr.hi; have := HAB.out; omega)
        have e2 : wrap64 (r - 1) = r - 1 := IntWalk.wrap64_in _ (by have := htr.lo; have := htr.hi; have := HAB.out; omega)
        have hsn := HBB.out r htr
        clear hf1 htr
        have HSN := Lib.hid hsn
        clear hsn
        go_wp2_with fail
        refine bodyPost_ret (v := .tuple #[.int .i64 fi, .int .i64 (r - 1), .int .i64 0]) (by simp [results, Tryd.results28, go_sem]) rfl ?_
        exact ⟨HF.out.call HFR.out HF.out.size (by simp), .inr (.inr ⟨by rw [HTB.out, HGB.out]; rfl, HINR.out, .inr ⟨fi, r - 1, by rw [← HO.out, ← HTE.out]; exact HSN.out, rfl⟩⟩)⟩
      · have hsn := piece_dy hpc hs hal hoxn.symm
        clear hs hpc htu hal
        have HSN := Lib.hid hsn
        have HAT := Lib.hid hat
        have HA := Lib.hid ha
        have HFR := Lib.hid hfr
        have HIN2 := Lib.hid hin2
        have HMS := Lib.hid hms
        have HX := Lib.hid hx
        have HOA := Lib.hid hoa
        have HOX := Lib.hid hox
        have HLO := Lib.hid hlo
        have HOAN := Lib.hid hoan
        have HOXN := Lib.hid hoxn
        have HAB := Lib.hid hab
        have HAX := Lib.hid hax
        have HSK := Lib.hid hsk
        have HSK2 := Lib.hid hsk'
        clear hsk' hsk hax hab hoxn hoan hlo hox hoa hx hms hin2 hfr ha hat hsn
        go_wp2_with (first | (with_reducible refine atLoad 52 rfl ?_; refine wpList_loadGE rfl rfl rfl (HLO.out _ HFR.out) ?_) | (go_at_call 31; first | (with_reducible refine (HOA.out _ HFR.out).mono ?_; rintro e1 w5 ⟨rfl, hf1⟩; replace HFR := Lib.hid (HFR.out.call hf1 HFR.out.size (by simp)); clear hf1) | (with_reducible refine (HOX.out _ HFR.out).mono ?_; rintro e1 w5 ⟨rfl, hf1⟩; replace HFR := Lib.hid (HFR.out.call hf1 HFR.out.size (by simp)); clear hf1)))
        (try simp only [w4, w5x])
        first | exact ⟨⟨i + 1, fi, by simp, HIN2.out, rfl, by rw [HAT.out], .inr ⟨_, HSN.out⟩, HFR.out⟩, HMS.out⟩ | (refine ⟨?_, HMS.out⟩; (repeat apply Exists.intro); refine ⟨?_, rfl⟩; exact ⟨i + 1, fi, by simp, HIN2.out, rfl, by rw [HAT.out], .inr ⟨_, HSN.out⟩, HFR.out⟩)
end Go.Proofs.YtfmigicmfolbjaaDoor
