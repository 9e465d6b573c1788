/-
  Texts F3, T5, T3, I2 of this claim, one behind the other.
-/
import Derived.Test.YtfmigicmfolbjaaDoorB17
namespace Go.Proofs.YtfmigicmfolbjaaDoor
set_option linter.all false
set_option linter.unusedSimpArgs false
set_option linter.unusedVariables false
open Go.RowKit

attribute [local go_sem ↓ high] run_min_ run_max_ run_min2 run_max2
/-- What 'Float' answers. -/
def FloatIs (g : Gr) (n : Nat) (T : Nat → Int × Int) (from_ : Int) (w w' : World) (e : Ending) : Prop :=
  Frm w.heap.size [] w w' ∧ (((tideB n T && grB g) = false ∧ e = .returned (.tuple #[.int .i64 0, .int .i64 0, .int .i64 2])) ∨
    ((tideB n T && grB g) = true ∧ inB from_ (T 0).1 (T (n - 1)).1 = false ∧ e = .returned (.tuple #[.int .i64 0, .int .i64 0, .int .i64 4])) ∨
    ((tideB n T && grB g) = true ∧ inB from_ (T 0).1 (T (n - 1)).1 = true ∧ ((Never (offAt g n T) from_ (T (n - 1)).1 ∧ e = .returned (.tuple #[.int .i64 0, .int .i64 0, .int .i64 7])) ∨
      ∃ f l : Int, Span (offAt g n T) from_ (T (n - 1)).1 f l ∧ e = .returned (.tuple #[.int .i64 f, .int .i64 l, .int .i64 0]))))
/-- What is known ahead of point i: not yet off; or off since f, and still so. -/
structure NotYet (O : Int → Bool) (T : Nat → Int × Int) (from_ : Int) (i : Nat) : Prop where
  no : 0 < i → ∀ t, from_ ≤ t → t ≤ (T (i - 1)).1 → O t = false
structure Since (O : Int → Bool) (T : Nat → Int × Int) (from_ : Int) (i : Nat) (f l : Int) : Prop where
  pos : 0 < i
  last : l = (T (i - 1)).1
  lo : from_ ≤ f
  mid : f ≤ l
  no : ∀ t, from_ ≤ t → t < f → O t = false
  yes : ∀ t, f ≤ t → t ≤ l → O t = true
section
variable {O : Int → Bool} {n : Nat} {T : Nat → Int × Int} {from_ : Int} {i : Nat} {f l : Int} {s : Int}
theorem notYet_skip (h : NotYet O T from_ i) (hlt : (T i).1 < from_) : NotYet O T from_ (i + 1) := ⟨fun _ t h1 h2 => absurd h1 (by rw [Nat.add_sub_cancel] at h2; omega)⟩
theorem notYet_none (h : NotYet O T from_ i) (hs : s ≤ from_ ∨ (0 < i ∧ s ≤ (T (i - 1)).1)) (hn : Never O s (T i).1) : NotYet O T from_ (i + 1) := ⟨fun _ t h1 h2 => by
  rw [Nat.add_sub_cancel] at h2
  by_cases hst : s ≤ t
  · exact hn t hst h2
  · rcases hs with hs | ⟨h0, hs⟩
    · omega
    · exact h.no h0 t h1 (by omega)⟩
theorem first_span (h : NotYet O T from_ i) (hs : s ≤ from_ ∨ (0 < i ∧ s ≤ (T (i - 1)).1)) (hfs : from_ ≤ s) (hsp : Span O s (T i).1 f l) : from_ ≤ f ∧ f ≤ l ∧ l ≤ (T i).1 ∧ (∀ t, from_ ≤ t → t < f → O t = false) ∧ (∀ t, f ≤ t → t ≤ l → O t = true) ∧ (l < (T i).1 → O (l + 1) = false) :=
  ⟨Int.le_trans hfs hsp.lo, hsp.mid, hsp.hi, fun t h1 h2 => by
    by_cases hst : s ≤ t
    · exact hsp.no t hst h2
    · rcases hs with hs | ⟨h0, hs⟩
      · omega
      · exact h.no h0 t h1 (by omega), hsp.yes, hsp.stop⟩
theorem since_first {f2 l2 : Int} (h : Since O T from_ i f l) (hsp : Span O l (T i).1 f2 l2) : f2 = l ∧ f ≤ l2 ∧ l2 ≤ (T i).1 ∧ (∀ t, f ≤ t → t ≤ l2 → O t = true) ∧ (l2 < (T i).1 → O (l2 + 1) = false) := by
  have hf : f2 = l := by
    rcases Int.lt_or_eq_of_le hsp.lo with c | c
    · have a := hsp.no l (Int.le_refl _) c
      have b := h.yes l h.mid (Int.le_refl _)
      rw [a] at b
      cases b
    · exact c.symm
  have hm := hsp.mid
  have hm2 := h.mid
  refine ⟨hf, by omega, hsp.hi, fun t h1 h2 => ?_, hsp.stop⟩
  by_cases ht : t ≤ l
  · exact h.yes t h1 ht
  · exact hsp.yes t (by omega) h2
theorem since_never (h : Since O T from_ i f l) (hn : Never O l (T i).1) (hle : l ≤ (T i).1) : False := by
  have a := hn l (Int.le_refl _) hle
  have b := h.yes l h.mid (Int.le_refl _)
  rw [a] at b
  cases b
end
theorem Span.congr {o p : Int → Bool} {s e f l : Int} (h : Span o s e f l) (hop : ∀ t, s ≤ t → t ≤ e → o t = p t) : Span p s e f l := by
  have h1 := h.lo
  have h2 := h.mid
  have h3 := h.hi
  exact ⟨h1, h2, h3, fun t a b => by rw [← hop t a (by omega)]; exact h.no t a b, fun t a b => by rw [← hop t (by omega) (by omega)]; exact h.yes t a b, fun a => by rw [← hop (l + 1) (by omega) (by omega)]; exact h.stop a⟩
theorem Never.congr {o p : Int → Bool} {s e : Int} (h : Never o s e) (hop : ∀ t, s ≤ t → t ≤ e → o t = p t) : Never p s e := fun t a b => by rw [← hop t a b]; exact h t a b

set_option maxRecDepth 100000 in
set_option maxHeartbeats 16000000 in
theorem float_any (g : Gr) (ad : Option Addr) (b off n cap : Nat) (T : Nat → Int × Int) (from_ : Int) (w : World) (hr : Rw w 2 ad b off n fun i => tpC (T i)) :
    Calls Tryd.prog 27 #[.agg g.cells.toArray, .slice ad n cap, .int .i64 from_] w fun e w' => FloatIs g n T from_ w w' e := by
  have hf0 := Tryd.func27
  have HR := Lib.hid hr
  clear hr
  go_enter Tryd.func27, Tryd.ntmps27
  go_upto_region 1 with fail
  refine namedC ?_; intro W hW
  have hb : Blk W w.heap.size 52 g.cells := by rw [hW]; exact Blk.new w 52 g.cells
  have hf : Frm w.heap.size [] w W := by rw [hW]; repeat (first | with_reducible exact Frm.refl _ _ _ | with_reducible refine Frm.drewN ?_ | with_reducible refine Frm.drew ?_ | ((with_reducible refine Frm.setCell' ?_ ?_); · first | (left; simp; done) | (right; simp; done) | (right; simp; omega)) | ((with_reducible refine Frm.alloc' ?_ ?_); · first | exact Nat.le_refl _ | (simp; done) | (simp; omega)))
  clear hW hf0
  obtain ⟨c, hc⟩ : ∃ c, c = w.heap.size := ⟨_, rfl⟩
  rw [← hc] at hb ⊢
  have HB := Lib.hid hb
  have HF := Lib.hid hf
  have HC := Lib.hid hc
  clear hc hf hb
  go_wp2_with fail
  refine (tidal_any ad b off n cap T W (HR.out.frm HF.out (Nat.le_refl _))).mono ?_; rintro e w1 ⟨rfl, hf1⟩
  replace HB := Lib.hid (hf1.blk HB.out HB.out.lt (by simp)); replace HF := Lib.hid (HF.out.call hf1 HF.out.size (by simp)); clear hf1
  cases ht : tideB n T
  · have HT := Lib.hid ht
    clear ht
    go_wp2_with fail
    refine bodyPost_ret (v := .tuple #[.int .i64 0, .int .i64 0, .int .i64 2]) (by simp [results, Tryd.results27, go_sem]) rfl ?_
    exact ⟨HF.out, .inl ⟨by rw [HT.out]; rfl, rfl⟩⟩
  have HT := Lib.hid ht
  clear ht
  go_wp2_with (with_reducible refine atLoad 52 rfl ?_; refine wpList_loadGE rfl rfl rfl (load_gr HB.out) ?_)
  refine (grounded_any g w1).mono ?_; rintro e w2 ⟨rfl, hf1⟩
  replace HB := Lib.hid (hf1.blk HB.out HB.out.lt (by simp)); replace HF := Lib.hid (HF.out.call hf1 HF.out.size (by simp)); clear hf1
  cases hgb : grB g
  · have HGB := Lib.hid hgb
    clear hgb
    go_wp2_with fail
    refine bodyPost_ret (v := .tuple #[.int .i64 0, .int .i64 0, .int .i64 2]) (by simp [results, Tryd.results27, go_sem]) rfl ?_
    exact ⟨HF.out, .inl ⟨by rw [HT.out, HGB.out]; rfl, rfl⟩⟩
  have hok : (tideB n T && grB g) = true := by rw [HT.out, hgb]; rfl
  have hT := tide_ok HT.out
  have hg := gr_ok hgb
  have hn1 := hT.one
  have had := HR.out.ad (by omega)
  subst had
  obtain ⟨t0, ht0⟩ : ∃ x, x = (T 0).1 := ⟨_, rfl⟩
  obtain ⟨tl, htl⟩ : ∃ x, x = (T (n - 1)).1 := ⟨_, rfl⟩
  obtain ⟨nm, hnm⟩ : ∃ x, x = n - 1 := ⟨_, rfl⟩
  have hfx : ∀ X, Frm w2.heap.size [] w2 X → X.cell? ⟨b, off, none⟩ = some (.int .i64 t0) ∧ X.cell? ⟨b, off + nm * 2, none⟩ = some (.int .i64 tl) := fun X hX => by
    have h := HR.out.frm (HF.out.call hX HF.out.size (by simp)) (Nat.le_refl _)
    refine ⟨?_, ?_⟩
    · have := h.at_ 0 (by omega) 0 _ rfl
      rw [ht0]; simpa using this
    · have := h.at_ (n - 1) (by omega) 0 _ rfl
      rw [htl, hnm]; simpa using this
  have v1 : IntKind.i64.wrap ((n : Int) - 1) = (nm : Int) := by rw [hnm, IntWalk.i64_in _ (by omega)]; omega
  have v2 : (nm : Int) < (n : Int) := by omega
  have v3 : (0 : Int) < (n : Int) := by omega
  have v4 : nm < n := by omega
  have v5 : 0 < n := by omega
  obtain ⟨ib, hib⟩ : ∃ x, x = inB from_ t0 tl := ⟨_, rfl⟩
  clear hgb
  have HOK := Lib.hid hok
  have HTO := Lib.hid hT
  have HG := Lib.hid hg
  have HN1 := Lib.hid hn1
  have HT0 := Lib.hid ht0
  have HTL := Lib.hid htl
  have HNM := Lib.hid hnm
  have HFX := Lib.hid hfx
  have HIB := Lib.hid hib
  clear hib hfx hnm htl ht0 hn1 hg hT hok
  go_upto_region 3 with fail
  refine wp_region_leftL (fun V => Frm w2.heap.size [] w2 V) 1000 (by kernel_rfl) ?_
  have hS : Frm w2.heap.size [] w2 w2.drew := (Frm.refl _ _ w2).drew
  have HS := Lib.hid hS
  clear hS
  first | ((first | refine LeftL.tkF (v := ?_) 0 rfl HS.out ?_ ?_ | refine LeftL.tkG (v := ?_) 0 rfl HS.out ?_ ?_); rotate_left; (· intro V hV; obtain ⟨q0, q1⟩ := HFX.out V hV; clear hV; go_simp; rfl)) | refine LeftL.tkN 0 rfl HS.out ?_
  (intro K' hK'; go_simp; refine hK' _ ?_; clear hK' K')
  first | ((first | refine LeftL.tkF (v := ?_) 1 rfl HS.out ?_ ?_ | refine LeftL.tkG (v := ?_) 1 rfl HS.out ?_ ?_); rotate_left; (· intro V hV; obtain ⟨q0, q1⟩ := HFX.out V hV; clear hV; go_simp; rfl)) | refine LeftL.tkN 1 rfl HS.out ?_
  (intro K' hK'; go_simp; refine hK' _ ?_; clear hK' K')
  first | ((first | refine LeftL.tkF (v := ?_) 2 rfl HS.out ?_ ?_ | refine LeftL.tkG (v := ?_) 2 rfl HS.out ?_ ?_); rotate_left; (· intro V hV; obtain ⟨q0, q1⟩ := HFX.out V hV; clear hV; go_simp; rfl)) | refine LeftL.tkN 2 rfl HS.out ?_
  (intro K' hK'; go_simp; refine hK' _ ?_; clear hK' K')
  first | ((first | refine LeftL.tkF (v := ?_) 3 rfl HS.out ?_ ?_ | refine LeftL.tkG (v := ?_) 3 rfl HS.out ?_ ?_); rotate_left; (· intro V hV; obtain ⟨q0, q1⟩ := HFX.out V hV; clear hV; go_simp; rfl)) | refine LeftL.tkN 3 rfl HS.out ?_
  (intro K' hK'; go_simp; refine hK' _ ?_; clear hK' K')
  first | ((first | refine LeftL.tkF (v := ?_) 4 rfl HS.out ?_ ?_ | refine LeftL.tkG (v := ?_) 4 rfl HS.out ?_ ?_); rotate_left; (· intro V hV; obtain ⟨q0, q1⟩ := HFX.out V hV; clear hV; go_simp; rfl)) | refine LeftL.tkN 4 rfl HS.out ?_
  (intro K' hK'; go_simp; refine hK' _ ?_; clear hK' K')
  first | ((first | refine LeftL.tkF (v := ?_) 5 rfl HS.out ?_ ?_ | refine LeftL.tkG (v := ?_) 5 rfl HS.out ?_ ?_); rotate_left; (· intro V hV; obtain ⟨q0, q1⟩ := HFX.out V hV; clear hV; go_simp; rfl)) | refine LeftL.tkN 5 rfl HS.out ?_
  (intro K' hK'; go_simp; refine hK' _ ?_; clear hK' K')
  first | ((first | refine LeftL.tkF (v := ?_) 6 rfl HS.out ?_ ?_ | refine LeftL.tkG (v := ?_) 6 rfl HS.out ?_ ?_); rotate_left; (· intro V hV; obtain ⟨q0, q1⟩ := HFX.out V hV; clear hV; go_simp; rfl)) | refine LeftL.tkN 6 rfl HS.out ?_
  (intro K' hK'; go_simp; refine hK' _ ?_; clear hK' K')
  first | ((first | refine LeftL.tkF (v := ?_) 7 rfl HS.out ?_ ?_ | refine LeftL.tkG (v := ?_) 7 rfl HS.out ?_ ?_); rotate_left; (· intro V hV; obtain ⟨q0, q1⟩ := HFX.out V hV; clear hV; go_simp; rfl)) | refine LeftL.tkN 7 rfl HS.out ?_
  (intro K' hK'; go_simp; refine hK' _ ?_; clear hK' K')
  first | ((first | refine LeftL.tkF (v := ?_) 8 rfl HS.out ?_ ?_ | refine LeftL.tkG (v := ?_) 8 rfl HS.out ?_ ?_); rotate_left; (· intro V hV; obtain ⟨q0, q1⟩ := HFX.out V hV; clear hV; go_simp; rfl)) | refine LeftL.tkN 8 rfl HS.out ?_
  (intro K' hK'; go_simp; refine hK' _ ?_; clear hK' K')
  first | ((first | refine LeftL.tkF (v := ?_) 9 rfl HS.out ?_ ?_ | refine LeftL.tkG (v := ?_) 9 rfl HS.out ?_ ?_); rotate_left; (· intro V hV; obtain ⟨q0, q1⟩ := HFX.out V hV; clear hV; go_simp; rfl)) | refine LeftL.tkN 9 rfl HS.out ?_
  (intro K' hK'; go_simp; refine hK' _ ?_; clear hK' K')
  first | ((first | refine LeftL.tkF (v := ?_) 10 rfl HS.out ?_ ?_ | refine LeftL.tkG (v := ?_) 10 rfl HS.out ?_ ?_); rotate_left; (· intro V hV; obtain ⟨q0, q1⟩ := HFX.out V hV; clear hV; go_simp; rfl)) | refine LeftL.tkN 10 rfl HS.out ?_
  (intro K' hK'; go_simp; refine hK' _ ?_; clear hK' K')
  first | ((first | refine LeftL.tkF (v := ?_) 11 rfl HS.out ?_ ?_ | refine LeftL.tkG (v := ?_) 11 rfl HS.out ?_ ?_); rotate_left; (· intro V hV; obtain ⟨q0, q1⟩ := HFX.out V hV; clear hV; go_simp; rfl)) | refine LeftL.tkN 11 rfl HS.out ?_
  (intro K' hK'; go_simp; refine hK' _ ?_; clear hK' K')
  refine LeftL.one 12 rfl (by kernel_rfl) ?_
  go_wp2_with fail
  refine (within_fr from_ t0 tl _).mono ?_; rintro e w1 ⟨rfl, hf1⟩
  have hS1 := HS.out.call hf1 HS.out.size (by simp)
  clear hf1 HS
  have HS := Lib.hid hS1
  clear hS1
  rw [← HIB.out]
  go_wp2_with fail
  first | refine ⟨fun _ => HS.out, ?_⟩ | refine ⟨HS.out, ?_⟩
  first | ((first | refine LeftL.tkF (v := ?_) 13 rfl HS.out ?_ ?_ | refine LeftL.tkG (v := ?_) 13 rfl HS.out ?_ ?_); rotate_left; (· intro V hV; obtain ⟨q0, q1⟩ := HFX.out V hV; clear hV; go_simp; rfl)) | refine LeftL.tkN 13 rfl HS.out ?_
  (intro K' hK'; go_simp; refine hK' _ ?_; clear hK' K')
  refine LeftL.done (by kernel_rfl) ?_
  cases ib
  · have hfin := HF.out.call HS.out HF.out.size (by simp)
    clear HS v1 v2 v3 v4 v5
    have HFIN := Lib.hid hfin
    clear hfin
    go_wp2_with fail
    refine bodyPost_ret (v := .tuple #[.int .i64 0, .int .i64 0, .int .i64 4]) (by simp [results, Tryd.results27, go_sem]) rfl ?_
    exact ⟨HFIN.out, .inr (.inl ⟨HOK.out, by rw [← HT0.out, ← HTL.out, ← HIB.out], rfl⟩)⟩
  have hib1 : inB from_ (T 0).1 (T (n - 1)).1 = true := by rw [← HT0.out, ← HTL.out, ← HIB.out]
  have hb := HS.out.blk HB.out HB.out.lt (by simp)
  have hfw := HF.out.call HS.out HF.out.size (by simp)
  obtain ⟨O, hO⟩ : ∃ O, O = offAt g n T := ⟨_, rfl⟩
  have hft := inB_iff.1 hib1
  clear HS v1 v2 v3 v4 v5 HB HF HFX
  have HIB1 := Lib.hid hib1
  have HB := Lib.hid hb
  have HF := Lib.hid hfw
  have HO := Lib.hid hO
  have HFT := Lib.hid hft
  clear hft hO hfw hb hib1
  go_upto_region 5 with fail
  refine namedC ?_; intro w3 hw3
  rw [← hw3] at HB HF
  clear hw3
  go_wp2_with fail
  go_loopw [6, 7, 9, 40] (fun s6 s7 s9 s40 wr => ∃ i : Nat, s40 = .int .i64 i ∧ i ≤ n ∧ Frm w3.heap.size [] w3 wr ∧ ∃ f l : Int, s6 = .int .i64 f ∧ s7 = .int .i64 l ∧ ((s9 = .bool false ∧ NotYet O T from_ i) ∨ (s9 = .bool true ∧ Since O T from_ i f l))) (fun _ _ _ s40 _ => n - (intOf s40).toNat)
  case atStart => exact ⟨0, rfl, Nat.zero_le _, Frm.refl _ _ _, 0, 0, rfl, rfl, .inl ⟨rfl, ⟨fun h => absurd h (by omega)⟩⟩⟩
  case round =>
    obtain ⟨i, rfl, hi, hfr, f, l, rfl, rfl, hst⟩ := hrel
    by_cases hin : i < n
    · have hin' : (i : Int) < (n : Int) := by omega
      obtain ⟨pb, hpb⟩ : ∃ p, p = T i := ⟨_, rfl⟩
      obtain ⟨pa, hpa⟩ : ∃ p, p = T (i - 1) := ⟨_, rfl⟩
      obtain ⟨im, him⟩ : ∃ x, x = i - 1 := ⟨_, rfl⟩
      have hlb : (loadVar 61 ⟨b, off + i * 2, none⟩).run Tryd.prog wr = .ok (.agg (tpC pb).toArray) wr := by rw [hpb]; exact (HR.out.frm (HF.out.call hfr HF.out.size (by simp)) (Nat.le_refl _)).load (P := Tryd.prog) Tryd.underlying61 rfl hin info61
      have hla : ∀ X, Frm wr.heap.size [] wr X → (loadVar 61 ⟨b, off + im * 2, none⟩).run Tryd.prog X = .ok (.agg (tpC pa).toArray) X := fun X hX => by rw [hpa, him]; exact (HR.out.frm (HF.out.call (hfr.call hX hfr.size (by simp)) HF.out.size (by simp)) (Nat.le_refl _)).load (P := Tryd.prog) Tryd.underlying61 rfl (show i - 1 < n by omega) info61
      have hn1 := HN1.out
      have v1 : IntKind.i64.wrap ((i : Int) - 1) = (i : Int) - 1 := IntWalk.i64_in _ (by omega)
      have v2 : max 0 ((i : Int) - 1) = (im : Int) := by omega
      have v3 : (im : Int) < (n : Int) := by omega
      have v3' : im < n := by omega
      have v4 : IntKind.i64.wrap ((i : Int) + 1) = (i : Int) + 1 := IntWalk.i64_in _ (by omega)
      have v5 : wrap64 ((i : Int) + 1) = (i : Int) + 1 := IntWalk.wrap64_in _ (by omega)
      have ha : TpOK pa := by rw [hpa]; exact HTO.out.ok _ (by omega)
      have hb' : TpOK pb := by rw [hpb]; exact HTO.out.ok _ hin
      have hms := meas_up hin
      have h2 : tpC pb = [.int .i64 pb.1, .int .i64 pb.2] := rfl
      have HST := Lib.hid hst
      have HFR := Lib.hid hfr
      have HIN := Lib.hid hin
      have HPB := Lib.hid hpb
      have HPA := Lib.hid hpa
      have HIM := Lib.hid him
      have HLB := Lib.hid hlb
      have HLA := Lib.hid hla
      have HN1B := Lib.hid hn1
      have HA := Lib.hid ha
      have HB1 := Lib.hid hb'
      have HMS := Lib.hid hms
      clear hms hb' ha hn1 hla hlb him hpa hpb hin hfr hst
      go_wp2_with (first | (with_reducible refine atLoad 61 rfl ?_; refine wpList_loadE rfl rfl rfl HLB.out ?_) | (with_reducible refine atStore 61 rfl ?_; refine stop_ ?_))
      refine go_on ?_
      refine wpList_storeNew (P := Tryd.prog) (cs := tpC pb) rfl rfl rfl rfl rfl info61 (by simp [tpC, Value.oneCell']) ?_
      intro V1 hf1 k1 hz1
      obtain ⟨q, hq⟩ : ∃ q, q = wr.heap.size := ⟨_, rfl⟩
      have hlo := HLA.out V1 hf1
      have hfr := HFR.out.call hf1 HFR.out.size (by simp)
      rw [← hq] at k1 ⊢
      clear hf1 hz1 hq HLA HFR HLB
      have K1 := Lib.hid k1
      have HFR := Lib.hid hfr
      have HLO := Lib.hid hlo
      clear hlo hfr k1
      go_wp2_with (first | (with_reducible refine atLoad 61 rfl ?_; refine wpList_loadE rfl rfl rfl HLO.out ?_) | (with_reducible refine atStore 61 rfl ?_; refine stop_ ?_))
      refine go_on ?_
      refine wpList_storeNew (P := Tryd.prog) (cs := tpC pa) rfl rfl rfl rfl rfl info61 (by simp [tpC, Value.oneCell']) ?_
      intro V2 hf1 k2 hz1
      obtain ⟨q2, hq2⟩ : ∃ q, q = V1.heap.size := ⟨_, rfl⟩
      have k1 := hf1.blk K1.out K1.out.lt (by simp)
      have hfr := HFR.out.call hf1 HFR.out.size (by simp)
      rw [← hq2] at k2 ⊢
      clear hf1 hz1 hq2 HLO HFR K1 v1 v2 v3 v3'
      have c0 : V2.cell? ⟨q, 0, none⟩ = some (.int .i64 pb.1) := k1.cell 0
      have d0 : V2.cell? ⟨q2, 0, none⟩ = some (.int .i64 pa.1) := k2.cell 0
      have K1 := Lib.hid k1
      have K2 := Lib.hid k2
      have HFR := Lib.hid hfr
      clear hfr k2 k1
      by_cases hlt : pb.1 < from_
      · -- this piece is over
        have hnx : f = f := rfl
        rcases HST.out with ⟨rfl, hny⟩ | ⟨rfl, hsi⟩
        · have hny2 := notYet_skip hny (by rw [← HPB.out]; exact hlt)
          clear hny hnx
          have HNY := Lib.hid hny2
          clear hny2
          go_wp2_with fail
          (try simp only [v4, v5])
          refine ⟨?_, HMS.out⟩; (repeat apply Exists.intro); refine ⟨?_, ?_⟩; rotate_left; (repeat' (first | exact rfl | apply And.intro)); first | exact ⟨i + 1, by simp, HIN.out, HFR.out, f, rfl, l, rfl, .inl ⟨rfl, HNY.out⟩⟩ | exact ⟨i + 1, by simp, HIN.out, HFR.out, f, l, rfl, rfl, .inl ⟨rfl, HNY.out⟩⟩
        · exfalso
          have h1 := hsi.lo
          have h2 := hsi.mid
          have h3 := hsi.last
          have h4 := HTO.out.up i hsi.pos HIN.out
          rw [← HPB.out] at h4
          omega
      obtain ⟨s, hs⟩ : ∃ s, s = max from_ pa.1 := ⟨_, rfl⟩
      have es := hs.symm
      have hft := HFT.out
      have hs0 : (s ≤ from_ ∨ (0 < i ∧ s ≤ (T (i - 1)).1)) ∧ from_ ≤ s ∧ 0 ≤ s ∧ s ≤ pb.1 ∧ pa.1 ≤ s := by
        rcases Nat.eq_zero_or_pos i with h0 | h0
        · subst h0
          have e1 : pa = pb := by rw [HPA.out, HPB.out]
          rw [e1] at hs
          have e2 : pb.1 = (T 0).1 := by rw [HPB.out]
          have e3 := HB1.out.time
          rw [e1]
          omega
        · have e1 := HTO.out.up i h0 HIN.out
          rw [← HPA.out, ← HPB.out] at e1
          rw [← HPA.out]
          have e3 := HA.out.time
          omega
      have hcg : ∀ t, s ≤ t → t ≤ pb.1 → offT g pa pb t = O t := fun t h1 h2 => by
        rw [HO.out, offAt_piece HTO.out HIN.out (by rw [← HPA.out]; omega) (by rw [← HPB.out]; exact h2), ← HPA.out, ← HPB.out]
      have hb2 := (HFR.out.blk HB.out HB.out.lt (by simp))
      clear hs hft
      have HS0 := Lib.hid hs0
      have HCG := Lib.hid hcg
      have HB2 := Lib.hid hb2
      clear hb2 hcg hs0
      go_wp2_with (first | (with_reducible refine atLoad 52 rfl ?_; refine wpList_loadE rfl rfl rfl (load_gr HB2.out) ?_) | (with_reducible refine atLoad 61 rfl ?_; first | refine wpList_loadE rfl rfl rfl (load_tp K2.out) ?_ | refine wpList_loadE rfl rfl rfl (load_tp K1.out) ?_))
      refine (window_any g HG.out pa pb HA.out HB1.out s ⟨HS0.out.2.2.1, HS0.out.2.2.2.1⟩ V2).mono ?_; rintro e w5 ⟨hwi, hf1⟩
      have hfr := HFR.out.call hf1 HFR.out.size (by simp)
      have k1 := hf1.blk K1.out K1.out.lt (by simp)
      have hfw := HF.out.call hfr HF.out.size (by simp)
      clear hf1 HFR K1 K2 HB2 c0 d0
      have c0 : w5.cell? ⟨q, 0, none⟩ = some (.int .i64 pb.1) := k1.cell 0
      have HFR := Lib.hid hfr
      have K1 := Lib.hid k1
      have HFW := Lib.hid hfw
      clear hfw k1 hfr
      have hlast : ∀ x : Int, x < pb.1 → ∀ y, i = n - 1 → pb.1 = y → x < y := fun x h1 y _ h2 => by omega
      clear hlast
      rcases hwi with ⟨f2, l2, hsp, rfl⟩ | ⟨hnev, rfl⟩
      · have hsp := hsp.congr HCG.out
        have hle : pb.1 ≤ (T (n - 1)).1 := by rw [HPB.out]; exact HTO.out.le (by have := HIN.out; omega) (by have := HIN.out; omega)
        have hbt : (T i).1 = pb.1 := by rw [← HPB.out]
        rcases HST.out with ⟨rfl, hny⟩ | ⟨rfl, hsi⟩
        · obtain ⟨r1, r2, r3, r4, r5, r6⟩ := first_span (f := f2) (l := l2) hny HS0.out.1 HS0.out.2.1 (by rw [hbt]; exact hsp)
          rw [hbt] at r3 r6
          clear hny hsp
          by_cases hl2 : l2 < pb.1
          · have hres : Span O from_ (T (n - 1)).1 f2 l2 := ⟨r1, r2, by omega, r4, r5, fun _ => r6 hl2⟩
            clear r4 r5 r6 hbt
            have HRES := Lib.hid hres
            clear hres
            go_wp2_with fail
            refine bodyPost_ret (v := .tuple #[.int .i64 f2, .int .i64 l2, .int .i64 0]) (by simp [results, Tryd.results27, go_sem]) rfl ?_
            exact ⟨HFW.out, .inr (.inr ⟨HOK.out, HIB1.out, .inr ⟨f2, l2, by rw [← HO.out]; exact HRES.out, rfl⟩⟩)⟩
          · have hsi2 : Since O T from_ (i + 1) f2 l2 := ⟨by omega, by rw [Nat.add_sub_cancel, hbt]; omega, r1, r2, r4, r5⟩
            clear r4 r5 r6 hbt
            have HSI := Lib.hid hsi2
            clear hsi2
            go_wp2_with fail
            (try simp only [v4, v5])
            refine ⟨?_, HMS.out⟩; (repeat apply Exists.intro); refine ⟨?_, ?_⟩; rotate_left; (repeat' (first | exact rfl | apply And.intro)); first | exact ⟨i + 1, by simp, HIN.out, HFR.out, f2, rfl, l2, rfl, .inr ⟨rfl, HSI.out⟩⟩ | exact ⟨i + 1, by simp, HIN.out, HFR.out, f2, l2, rfl, rfl, .inr ⟨rfl, HSI.out⟩⟩
        · have hsl : s = l := by
            have h1 := hsi.last
            have h2 := hsi.lo
            have h3 := hsi.mid
            rw [← HPA.out] at h1
            rw [← es]
            omega
          obtain ⟨r1, r2, r3, r5, r6⟩ := since_first (f2 := f2) (l2 := l2) hsi (by rw [hbt, ← hsl]; exact hsp)
          rw [hbt] at r3 r6
          subst r1
          have hf20 : -1 ≤ f2 ∧ f2 ≤ 10000000 := by
            have h1 := HB1.out.time
            have h2 := HS0.out
            omega
          have x1 : IntKind.i64.wrap (f2 + 1) = f2 + 1 := IntWalk.i64_in _ (by omega)
          have x2 : wrap64 (f2 + 1) = f2 + 1 := IntWalk.wrap64_in _ (by omega)
          have x3 : ¬ f2 + 1 < f2 := by omega
          have g1 := hsi.lo
          have g2 := hsi.no
          clear hsi hsp hsl hf20
          by_cases hl2 : l2 < pb.1
          · have hres : Span O from_ (T (n - 1)).1 f l2 := ⟨g1, r2, by omega, g2, r5, fun _ => r6 hl2⟩
            clear g2 r5 r6 hbt
            have HRES := Lib.hid hres
            clear hres
            go_wp2_with fail
            refine bodyPost_ret (v := .tuple #[.int .i64 f, .int .i64 l2, .int .i64 0]) (by simp [results, Tryd.results27, go_sem]) rfl ?_
            exact ⟨HFW.out, .inr (.inr ⟨HOK.out, HIB1.out, .inr ⟨f, l2, by rw [← HO.out]; exact HRES.out, rfl⟩⟩)⟩
          · have hsi2 : Since O T from_ (i + 1) f l2 := ⟨by omega, by rw [Nat.add_sub_cancel, hbt]; omega, g1, r2, g2, r5⟩
            clear g2 r5 r6 hbt
            have HSI := Lib.hid hsi2
            clear hsi2
            go_wp2_with fail
            (try simp only [v4, v5])
            refine ⟨?_, HMS.out⟩; (repeat apply Exists.intro); refine ⟨?_, ?_⟩; rotate_left; (repeat' (first | exact rfl | apply And.intro)); first | exact ⟨i + 1, by simp, HIN.out, HFR.out, f, rfl, l2, rfl, .inr ⟨rfl, HSI.out⟩⟩ | exact ⟨i + 1, by simp, HIN.out, HFR.out, f, l2, rfl, rfl, .inr ⟨rfl, HSI.out⟩⟩
      · have hnev := hnev.congr HCG.out
        have hbt : (T i).1 = pb.1 := by rw [← HPB.out]
        rcases HST.out with ⟨rfl, hny⟩ | ⟨rfl, hsi⟩
        · have hny2 := notYet_none hny HS0.out.1 (by rw [hbt]; exact hnev)
          clear hny hnev hbt
          have HNY := Lib.hid hny2
          clear hny2
          go_wp2_with fail
          (try simp only [v4, v5])
          refine ⟨?_, HMS.out⟩; (repeat apply Exists.intro); refine ⟨?_, ?_⟩; rotate_left; (repeat' (first | exact rfl | apply And.intro)); first | exact ⟨i + 1, by simp, HIN.out, HFR.out, f, rfl, l, rfl, .inl ⟨rfl, HNY.out⟩⟩ | exact ⟨i + 1, by simp, HIN.out, HFR.out, f, l, rfl, rfl, .inl ⟨rfl, HNY.out⟩⟩
        · exfalso
          have hsl : s = l := by
            have h1 := hsi.last
            have h2 := hsi.lo
            have h3 := hsi.mid
            rw [← HPA.out] at h1
            rw [← es]
            omega
          exact since_never hsi (by rw [hbt, ← hsl]; exact hnev) (by rw [hbt, ← hsl]; exact HS0.out.2.2.2.1)
    · have hin' : ¬ (i : Int) < (n : Int) := by omega
      obtain rfl : i = n := by omega
      have hfw := HF.out.call hfr HF.out.size (by simp)
      have hn1 := HN1.out
      clear hfr hi hin
      rcases hst with ⟨rfl, hny⟩ | ⟨rfl, hsi⟩
      · have hnev : Never O from_ (T (i - 1)).1 := fun t h1 h2 => hny.no (by omega) t h1 h2
        clear hny hn1
        have HFW := Lib.hid hfw
        have HNEV := Lib.hid hnev
        clear hnev hfw
        go_wp2_with fail
        refine bodyPost_ret (v := .tuple #[.int .i64 0, .int .i64 0, .int .i64 7]) (by simp [results, Tryd.results27, go_sem]) rfl ?_
        exact ⟨HFW.out, .inr (.inr ⟨HOK.out, HIB1.out, .inl ⟨by rw [← HO.out]; exact HNEV.out, rfl⟩⟩)⟩
      · have hres : Span O from_ (T (i - 1)).1 f l := ⟨hsi.lo, hsi.mid, Int.le_of_eq hsi.last, hsi.no, hsi.yes, fun h => absurd h (by have := hsi.last; omega)⟩
        clear hsi hn1
        have HFW := Lib.hid hfw
        have HRES := Lib.hid hres
        clear hres hfw
        go_wp2_with fail
        refine bodyPost_ret (v := .tuple #[.int .i64 f, .int .i64 l, .int .i64 0]) (by simp [results, Tryd.results27, go_sem]) rfl ?_
        exact ⟨HFW.out, .inr (.inr ⟨HOK.out, HIB1.out, .inr ⟨f, l, by rw [← HO.out]; exact HRES.out, rfl⟩⟩)⟩
end Go.Proofs.YtfmigicmfolbjaaDoor

namespace Go.Proofs.YtfmigicmfolbjaaDoor
set_option linter.all false
set_option linter.unusedSimpArgs false
set_option linter.unusedVariables false
open Go.RowKit

theorem bitsOf_len (n e : Nat) : (bitsOf n e).length ≤ n := by
  unfold bitsOf
  exact Nat.le_trans (List.length_filter_le _ _) (by simp)
set_option maxRecDepth 100000 in
set_option maxHeartbeats 8000000 in
theorem indices_any (n : Nat) (hn : n ≤ 60) (e : Nat) (he : e < 2 ^ n) (w : World) (hg : Glob w) :
    Calls Tryd.prog 55 #[.int .u64 (e : Int)] w fun x w' => Frm w.heap.size [] w w' ∧ ∃ v own, x = .returned v ∧ Sl w' 3 1 v (bitsOf n e).length (intsC (bitsOf n e)) own ∧ ∀ b, own = some b → w.heap.size ≤ b := by
  have hf0 := Tryd.func55
  obtain ⟨i0, hi0, hz0', hz1, hz2⟩ := info_parts3 info3x
  have htop : 2 ^ n < 18446744073709551616 := Nat.lt_of_le_of_lt (Nat.pow_le_pow_right (by omega) hn) (by decide)
  obtain ⟨m, hm⟩ : ∃ m, m = 2 ^ n := ⟨_, rfl⟩
  rw [← hm] at he htop
  have HG := Lib.hid hg
  have HI0 := Lib.hid hi0
  have HZ0 := Lib.hid hz0'
  have HZ1 := Lib.hid hz1
  have HZ2 := Lib.hid hz2
  have HE := Lib.hid he
  have HTOP := Lib.hid htop
  have HM := Lib.hid hm
  have HNN := Lib.hid hn
  clear hn hm htop he hz2 hz1 hz0' hi0 hg
  go_enter Tryd.func55, Tryd.ntmps55
  go_wp2_with fail
  go_loopw [0, 3] (fun s0 s3 wr => ∃ s : Nat, s0 = .int .u64 s ∧ s < m ∧ ∃ A : List Nat, A ++ bitsOf n s = bitsOf n e ∧ (∃ own, Sl wr 3 1 s3 A.length (intsC A) own ∧ ∀ b, own = some b → w.heap.size ≤ b) ∧ Frm w.heap.size [] w wr) (fun s0 _ _ => (intOf s0).toNat)
  case atStart => exact ⟨e, rfl, HE.out, [], rfl, ⟨none, Sl.nil _ 3 1, fun b hb => by cases hb⟩, by repeat (first | with_reducible exact Frm.refl _ _ _ | with_reducible refine Frm.drewN ?_ | with_reducible refine Frm.drew ?_ | ((with_reducible refine Frm.setCell' ?_ ?_); · first | (left; simp; done) | (right; simp; done) | (right; simp; omega)) | ((with_reducible refine Frm.alloc' ?_ ?_); · first | exact Nat.le_refl _ | (simp; done) | (simp; omega)))⟩
  case round =>
    obtain ⟨s, rfl, hs, A, hA, ⟨own, hsl, hown⟩, hfr⟩ := hrel
    obtain ⟨ad, cp, rfl⟩ := hsl.form
    by_cases hs0 : 0 < s
    · have hs0' : (0 : Int) < (s : Int) := by omega
      obtain ⟨i, q, hiq⟩ := low_bit s hs0
      have hp : 0 < 2 ^ i := Nat.pow_pos (by omega)
      have hin : i < n := low_lt (n := n) (i := i) (q := q) (by rw [← hiq, ← HM.out]; exact hs)
      obtain ⟨p, hpq⟩ : ∃ p, p = 2 ^ (i + 1) * q := ⟨_, rfl⟩
      have hps : p < s := by rw [hpq, hiq]; omega
      have htop := HTOP.out
      have hand : bits BinOp.and IntKind.u64 (s : Int) (IntKind.u64.wrap ((s : Int) - 1)) = ((p : Nat) : Int) := by
        have e1 : IntKind.u64.wrap ((s : Int) - 1) = ((s - 1 : Nat) : Int) := by
          rw [show ((s : Int) - 1) = ((s - 1 : Nat) : Int) by omega]
          exact u64_nat (by omega)
        rw [e1, and_u64 (by omega) (by omega)]
        have := pop_low (i := i) (q := q)
        rw [← hiq, ← hpq] at this
        exact congrArg (fun x : Nat => (x : Int)) this
      have hbo : bitsOf n s = i :: bitsOf n p := by rw [hpq, hiq]; exact bitsOf_pop hin
      have hA2 : (A ++ [i]) ++ bitsOf n p = bitsOf n e := by rw [List.append_assoc, ← hA, hbo]; rfl
      have hlen : A.length + 1 ≤ n := by
        have h1 := bitsOf_len n e
        rw [← hA2, List.length_append, List.length_append] at h1
        simp at h1; omega
      obtain ⟨k, hk⟩ : ∃ k, k = A.length := ⟨_, rfl⟩
      have htz := tz_any s i q hiq (by omega) wr (HG.out.frm hfr (Nat.le_refl _))
      have hms : p < s := hps
      have hpm : p < m := by omega
      rw [← hk] at hsl hlen ⊢
      clear hiq hp hpq htop hbo hA
      have HSL := Lib.hid hsl
      have HOWN := Lib.hid hown
      have HFR := Lib.hid hfr
      have HA2 := Lib.hid hA2
      have HK := Lib.hid hk
      have HTZ := Lib.hid htz
      have HPM := Lib.hid hpm
      have HMS := Lib.hid hms
      have HLEN := Lib.hid hlen
      have HIN := Lib.hid hin
      have HPS := Lib.hid hps
      have HS := Lib.hid hs
      clear hs hps hin hlen hms hpm htz hk hA2 hfr hown hsl
      go_wp2_with (first | (go_at_call 89; refine HTZ.out.mono ?_; rintro e1 w1 ⟨rfl, rfl⟩) | (at_builtin; refine hold ?_; intro qG hG))
      refine hG.1 ?_; clear hG qG
      refine wpList_append_sl _ rfl (.tmp 10) (.tmp 13) 26 rfl 3 i0 _ 1 8 Tryd.underlying26 HI0.out HZ0.out HZ1.out HZ2.out rfl _ k (intsC A) own rfl (HSL.out.alloc _) ⟨wr.heap.size, 0, none⟩ 1 1 [.int .i64 (i : Int)] rfl rfl (news_alloc _ [.int .i64 (i : Int)] _) (by simp [Value.oneCell']) (by have := HLEN.out; have := HNN.out; unfold maxLen; omega) (by have := HLEN.out; have := HNN.out; omega) ?_
      intro v2 w4 own1 hs1 hf1 ho1
      have hfr4 : Frm w.heap.size [] w w4 := (HFR.out.alloc HFR.out.size _).call hf1 (by have := HFR.out.size; simp; omega) (fun x hx hm => by have := HOWN.out x (by simpa using hm); omega)
      have hown1 : ∀ b, own1 = some b → w.heap.size ≤ b := fun b hb => by
        rcases ho1 with h | ⟨q, h, hq⟩
        · exact HOWN.out b (by rw [← h]; exact hb)
        · rw [hb] at h; cases h; have := HFR.out.size; simp at hq; omega
      have hs2 : Sl w4 3 1 v2 (A ++ [i]).length (intsC (A ++ [i])) own1 := by rw [intsC_snoc, List.length_append, ← HK.out]; simpa using hs1
      obtain ⟨ad1, cp1, rfl⟩ := hs2.form
      have hla : (A ++ [i]).length = A.length + 1 := by simp
      rw [hla] at hs2
      have hfin : ∃ s' : Nat, Value.int .u64 (p : Int) = .int .u64 s' ∧ s' < m ∧ ∃ A' : List Nat, A' ++ bitsOf n s' = bitsOf n e ∧ (∃ own, Sl w4 3 1 (.slice ad1 (A.length + 1) cp1) A'.length (intsC A') own ∧ ∀ b, own = some b → w.heap.size ≤ b) ∧ Frm w.heap.size [] w w4 := ⟨p, rfl, HPM.out, A ++ [i], HA2.out, ⟨own1, by rw [hla]; exact hs2, hown1⟩, hfr4⟩
      have hms : ((p : Int)).toNat < ((s : Int)).toNat := by have := HMS.out; omega
      clear hf1 ho1 hs1 hs2 hfr4 hown1
      have HFIN := Lib.hid hfin
      have HMS2 := Lib.hid hms
      clear hms hfin
      go_wp2_with fail
      exact ⟨HFIN.out, HMS2.out⟩
    · have hs0' : ¬ (0 : Int) < (s : Int) := by omega
      obtain rfl : s = 0 := by omega
      rw [bitsOf_zero, List.append_nil] at hA
      rw [hA] at hsl
      obtain ⟨k, hk⟩ : ∃ k, k = (bitsOf n e).length := ⟨_, rfl⟩
      rw [hA, ← hk]
      rw [← hk] at hsl
      clear hs0'
      have HSL := Lib.hid hsl
      have HOWN := Lib.hid hown
      have HFR := Lib.hid hfr
      have HA := Lib.hid hA
      have HK := Lib.hid hk
      have HS := Lib.hid hs
      have HS0 := Lib.hid hs0
      clear hs0 hs hk hA hfr hown hsl
      go_wp2_with fail
      go_ret
      exact ⟨HFR.out, _, own, rfl, by rw [← HK.out]; exact HSL.out, HOWN.out⟩
set_option maxRecDepth 100000 in
set_option maxHeartbeats 4000000 in
theorem but_any (ad : Option Addr) (n cap : Nat) (e : Nat) (w : World) : Calls Tryd.prog 54 #[.slice ad n cap, .int .u64 (e : Int)] w fun x w' => x = .returned (.func (.func 88) #[] #[.pointer (some ⟨w.heap.size, 0, none⟩), .pointer (some ⟨w.heap.size + 1, 0, none⟩)]) ∧ (Blk w' w.heap.size 42 [.slice ad n cap] ∧ Blk w' (w.heap.size + 1) 96 [.int .u64 (e : Int)]) ∧ Frm w.heap.size [] w w' := by
  have hf0 := Tryd.func54
  go_enter Tryd.func54, Tryd.ntmps54
  go_wp2_with fail
  go_ret
  refine ⟨rfl, ⟨?_, ?_⟩, by repeat (first | with_reducible exact Frm.refl _ _ _ | with_reducible refine Frm.drewN ?_ | with_reducible refine Frm.drew ?_ | ((with_reducible refine Frm.setCell' ?_ ?_); · first | (left; simp; done) | (right; simp; done) | (right; simp; omega)) | ((with_reducible refine Frm.alloc' ?_ ?_); · first | exact Nat.le_refl _ | (simp; done) | (simp; omega)))⟩
  · repeat (first | exact Blk.new w 42 [.slice ad n cap] | refine Blk.alloc' ?_)
  · repeat (first | exact Blk.new' _ 96 [.int .u64 (e : Int)] (by simp) | refine Blk.alloc' ?_)
end Go.Proofs.YtfmigicmfolbjaaDoor

namespace Go.Proofs.YtfmigicmfolbjaaDoor
set_option linter.all false
set_option linter.unusedSimpArgs false
set_option linter.unusedVariables false
open Go.RowKit

theorem isNaN_any (a : Int) (w : World) : Calls Tryd.prog 111 #[.int .i64 a] w fun e w' => e = .returned (.bool false) ∧ w = w' := by
  go_enter Tryd.func111, Tryd.ntmps111
  go_wp2
  go_ret
  exact ⟨by simp, rfl⟩
def cmpI (a b : Int) : Int := if a < b then -1 else if b < a then 1 else 0
set_option maxRecDepth 100000 in
set_option maxHeartbeats 4000000 in
theorem cmp_any (a b : Int) (w : World) : Calls Tryd.prog 90 #[.int .i64 a, .int .i64 b] w fun e w' => e = .returned (.int .i64 (cmpI a b)) ∧ w = w' := by
  have hf0 := Tryd.func90
  by_cases h1 : a < b
  · have hE : cmpI a b = -1 := by unfold cmpI; rw [if_pos h1]
    have HE := Lib.hid hE
    clear hE
    go_enter Tryd.func90, Tryd.ntmps90
    go_wp2_with (go_at_call 111; refine (isNaN_any _ _).mono ?_; rintro e w' ⟨rfl, rfl⟩)
    go_ret
    exact ⟨by rw [HE.out]; rfl, rfl⟩
  · by_cases h2 : b < a
    · have hE : cmpI a b = 1 := by unfold cmpI; rw [if_neg h1, if_pos h2]
      have HE := Lib.hid hE
      clear hE
      go_enter Tryd.func90, Tryd.ntmps90
      go_wp2_with (go_at_call 111; refine (isNaN_any _ _).mono ?_; rintro e w' ⟨rfl, rfl⟩)
      go_ret
      exact ⟨by rw [HE.out]; rfl, rfl⟩
    · have hE : cmpI a b = 0 := by unfold cmpI; rw [if_neg h1, if_neg h2]
      have HE := Lib.hid hE
      clear hE
      go_enter Tryd.func90, Tryd.ntmps90
      go_wp2_with (go_at_call 111; refine (isNaN_any _ _).mono ?_; rintro e w' ⟨rfl, rfl⟩)
      go_ret
      exact ⟨by rw [HE.out]; rfl, rfl⟩
theorem lex_at : ∀ {A B : List Nat} {j : Nat}, A.length = B.length → j < A.length → (∀ k, k < j → A.getD k 0 = B.getD k 0) → A.getD j 0 ≠ B.getD j 0 → lexLt A B = decide (A.getD j 0 < B.getD j 0)
  | a :: ar, b :: bs, 0, _, _, _, hn => by
    have : a ≠ b := by simpa using hn
    simp [lexLt, this]
  | a :: ar, b :: bs, j + 1, hl, hj, he, hn => by
    have h0 : a = b := by simpa using he 0 (by omega)
    have ih := lex_at (A := ar) (B := bs) (j := j) (by simpa using hl) (by simpa using hj) (fun k hk => by simpa using he (k + 1) (by omega)) (by simpa using hn)
    simpa [lexLt, h0] using ih
  | [], _, j, _, hj, _, _ => absurd hj (by simp)
  | _ :: _, [], _, hl, _, _, _ => absurd hl (by simp)
theorem lex_eq : ∀ {A B : List Nat}, A.length = B.length → (∀ k, k < A.length → A.getD k 0 = B.getD k 0) → lexLt A B = false
  | [], _, _, _ => by unfold lexLt; rfl
  | a :: ar, [], _, _ => by unfold lexLt; rfl
  | a :: ar, b :: bs, hl, he => by
    have h0 : a = b := by simpa using he 0 (by simp)
    have ih := lex_eq (A := ar) (B := bs) (by simpa using hl) (fun k hk => by simpa using he (k + 1) (by simp; omega))
    simpa [lexLt, h0] using ih
/-- A slice of natural numbers. -/
abbrev RwN (w : World) (ad : Option Addr) (b off : Nat) (A : List Nat) : Prop := RwI w ad b off A.length fun i => ((A.getD i 0 : Nat) : Int)
set_option maxRecDepth 100000 in
set_option maxHeartbeats 8000000 in
theorem compare_any (ad ad2 : Option Addr) (b off cap b2 off2 cap2 : Nat) (A B : List Nat) (hl : A.length = B.length) (w : World) (hr : RwN w ad b off A) (hr2 : RwN w ad2 b2 off2 B) :
    Calls Tryd.prog 56 #[.slice ad A.length cap, .slice ad2 A.length cap2] w fun e w' => (∃ r : Int, e = .returned (.int .i64 r) ∧ decide (r < 0) = lexLt A B) ∧ Frm w.heap.size [] w w' := by
  have hf0 := Tryd.func56
  obtain ⟨len, hlen⟩ : ∃ n, n = A.length := ⟨_, rfl⟩
  have hl2 : (len : Int) ≤ 9223372036854775807 := by
    have : maxLen ≤ 9223372036854775807 := by decide
    have := hr.len
    omega
  rw [← hlen]
  have HR := Lib.hid hr
  have HS := Lib.hid hr2
  have HL := Lib.hid hl
  have HLN := Lib.hid hlen
  clear hlen hl hr2 hr
  go_enter Tryd.func56, Tryd.ntmps56
  go_wp2_with fail
  go_loopw [11] (fun i8 wr => ∃ j : Nat, i8 = .int .i64 j ∧ j ≤ len ∧ (∀ k, k < j → A.getD k 0 = B.getD k 0) ∧ Frm w.heap.size [] w wr) (fun i8 _ => len - (intOf i8).toNat)
  case atStart => exact ⟨0, rfl, Nat.zero_le _, fun k hk => by omega, by repeat (first | with_reducible exact Frm.refl _ _ _ | with_reducible refine Frm.drewN ?_ | with_reducible refine Frm.drew ?_ | ((with_reducible refine Frm.setCell' ?_ ?_); · first | (left; simp; done) | (right; simp; done) | (right; simp; omega)) | ((with_reducible refine Frm.alloc' ?_ ?_); · first | exact Nat.le_refl _ | (simp; done) | (simp; omega)))⟩
  case round =>
    obtain ⟨j, rfl, hj, hno, hfr⟩ := hrel
    by_cases hjl : j < len
    · have hjl' : (j : Int) < (len : Int) := by omega
      have had' := HR.out.ad (by have := HLN.out; omega)
      have had2 := HS.out.ad (by have := HLN.out; have := HL.out; omega)
      subst had' had2
      obtain ⟨x, hx⟩ : ∃ x, x = ((A.getD j 0 : Nat) : Int) := ⟨_, rfl⟩
      obtain ⟨y, hy⟩ : ∃ y, y = ((B.getD j 0 : Nat) : Int) := ⟨_, rfl⟩
      have c1 : wr.cell? ⟨b, off + j, none⟩ = some (.int .i64 x) := by rw [hx]; exact (HR.out.frm hfr (Nat.le_refl _)).cellI (by rw [← HLN.out]; exact hjl)
      have c2 : wr.cell? ⟨b2, off2 + j, none⟩ = some (.int .i64 y) := by rw [hy]; exact (HS.out.frm hfr (Nat.le_refl _)).cellI (by rw [← HL.out, ← HLN.out]; exact hjl)
      obtain ⟨z, hz⟩ : ∃ z, z = cmpI x y := ⟨_, rfl⟩
      by_cases hz0 : z = 0
      · have hxy : A.getD j 0 = B.getD j 0 := by
          unfold cmpI at hz
          split at hz
          · omega
          · split at hz
            · omega
            · omega
        have hnx : ∀ k, k < j + 1 → A.getD k 0 = B.getD k 0 := fun k hk => by
          rcases Nat.lt_or_ge k j with e | e
          · exact hno k e
          · obtain rfl : k = j := by omega
            exact hxy
        subst hz0
        have HNO := Lib.hid hno
        have HFR := Lib.hid hfr
        have HJL := Lib.hid hjl
        have HNX := Lib.hid hnx
        have HX := Lib.hid hx
        have HY := Lib.hid hy
        have HZ := Lib.hid hz
        have HXY := Lib.hid hxy
        clear hxy hz hy hx hnx hjl hfr hno
        go_wp2_with fail
        refine (cmp_any _ _ _).mono ?_; rintro e w' ⟨rfl, rfl⟩
        rw [← HZ.out]
        go_wp2_with fail
        exact ⟨⟨j + 1, by simp, HJL.out, HNX.out, HFR.out⟩, by have := HJL.out; simp [intOf]; omega⟩
      · have hne : A.getD j 0 ≠ B.getD j 0 := fun h => by
          apply hz0
          rw [hz]
          unfold cmpI
          rw [hx, hy, h, if_neg (by omega), if_neg (by omega)]
        have hres : decide (z < 0) = lexLt A B := by
          rw [lex_at HL.out (by rw [← HLN.out]; exact hjl) hno hne]
          have : z < 0 ↔ A.getD j 0 < B.getD j 0 := by
            unfold cmpI at hz
            split at hz
            · omega
            · split at hz
              · omega
              · omega
          exact decide_eq_decide.2 this
        have hzb : (z != 0) = true := by simp [hz0]
        clear hz0
        have HNO := Lib.hid hno
        have HFR := Lib.hid hfr
        have HJL := Lib.hid hjl
        have HX := Lib.hid hx
        have HY := Lib.hid hy
        have HZ := Lib.hid hz
        have HNE := Lib.hid hne
        have HRES := Lib.hid hres
        clear hres hne hz hy hx hjl hfr hno
        go_wp2_with fail
        refine (cmp_any _ _ _).mono ?_; rintro e w' ⟨rfl, rfl⟩
        rw [← HZ.out]
        go_wp2_with fail
        go_ret
        exact ⟨⟨z, rfl, HRES.out⟩, HFR.out⟩
    · have hjl' : ¬ (j : Int) < (len : Int) := by omega
      obtain rfl : j = len := by omega
      have hres : decide ((0 : Int) < 0) = lexLt A B := by
        rw [lex_eq HL.out (fun k hk => hno k (by rw [HLN.out]; exact hk))]; rfl
      have HNO := Lib.hid hno
      have HFR := Lib.hid hfr
      have HRES := Lib.hid hres
      clear hres hfr hno
      go_wp2_with fail
      go_ret
      exact ⟨⟨0, rfl, HRES.out⟩, HFR.out⟩
end Go.Proofs.YtfmigicmfolbjaaDoor

namespace Go.Proofs.YtfmigicmfolbjaaDoor
set_option linter.all false
set_option linter.unusedSimpArgs false
set_option linter.unusedVariables false
open Go.RowKit Go.Shelf

/-- The first k tanks, but those whose bit is set. -/
def butL (L : Nat → Ta) (e : Nat) (k : Nat) : List Ta := ((List.range k).filter fun i => !e.testBit i).map L
theorem butL_succ (L : Nat → Ta) (e k : Nat) : butL L e (k + 1) = butL L e k ++ (if e.testBit k = true then [] else [L k]) := by
  unfold butL
  rw [List.range_succ, List.filter_append, List.map_append]
  congr 1
  cases h : e.testBit k <;> simp [h]
theorem butL_pre (L : Nat → Ta) (e : Nat) : ∀ (d k : Nat), ∃ r, butL L e (k + d) = butL L e k ++ r
  | 0, k => ⟨[], by simp⟩
  | d + 1, k => by
    obtain ⟨r, hr⟩ := butL_pre L e d k
    rw [show k + (d + 1) = (k + d) + 1 by omega, butL_succ, hr]
    exact ⟨_, List.append_assoc _ _ _⟩
theorem butL_at (L : Nat → Ta) (e : Nat) {n k : Nat} (hk : k < n) (hb : e.testBit k = false) : (butL L e k).length < (butL L e n).length ∧ (butL L e n).getD (butL L e k).length ta0 = L k := by
  obtain ⟨r, hr⟩ := butL_pre L e (n - (k + 1)) (k + 1)
  rw [show k + 1 + (n - (k + 1)) = n by omega, butL_succ, hb] at hr
  rw [hr]
  simp
theorem butL_len (L : Nat → Ta) (e k : Nat) : (butL L e k).length ≤ k := by
  unfold butL
  rw [List.length_map]
  exact Nat.le_trans (List.length_filter_le _ _) (by simp)
attribute [local go_sem] Oper.semAt_some
/-- (In a fence:) a guarded load, by what the memory answers. -/
theorem wpListIn_loadGE {P : Program} {F : Fence} {n : Nat} {ops : Array Oper} {Q : Exit → Act → World → Prop} {a : Act} {w : World} {rest : List Oper} {o : Oper} (hw : Region.wanted o (yielded ops a.tmps) = true) (hF : ∀ f, F.fn f) {ty : TypeId} {x : Operand} (ho : o.op = .load ty x)
    {ad : Addr} {v : Value} (hx : a.eval x = .pointer (some ad)) (hl : (loadVar ty ad).run P w = .ok v w) (h : wpListIn F n P ops Q rest (a.put o.dst v) w) : wpListIn F n P ops Q (o :: rest) a w := by
  simp only [wpListIn]
  rw [if_pos hw]
  refine ⟨fun f _ => hF f, ?_⟩
  rw [Oper.semAt_eq _ _ _ (fun c hc => by rw [ho] at hc; cases hc)]
  have hr : (execOp a.eval o).run P w = .ok (.value v) w := by
    unfold execOp
    simp only [ho, hx, Instr.loadAt, Instr.sureAddr, Sem.run_bind, Sem.run_pure, Result.andThen_ok, hl]
  rw [hr]
  exact h
set_option maxRecDepth 100000 in
set_option maxHeartbeats 8000000 in
theorem iter_but (sb eb : Nat) (ad : Option Addr) (b off n cap : Nat) (L : Nat → Ta) (e : Nat) (he : e < 18446744073709551616) (hn : n ≤ 60) (w0 : World) (hs : Blk w0 sb 42 [.slice ad n cap]) (hbe : Blk w0 eb 96 [.int .u64 (e : Int)]) (hr : Rw w0 4 ad b off n fun i => (L i).cells) :
    IterOf 88 #[.pointer (some ⟨sb, 0, none⟩), .pointer (some ⟨eb, 0, none⟩)] (butL L e n) w0 := by
  refine ⟨fun N l m S0 W hf hN1 hN hS0 J hJ hY h0 => ?_⟩
  have hf0 := Tryd.func88
  have hc1 : W.cell? ⟨sb, 0, none⟩ = some (.slice ad n cap) := (hf.blk hs hs.lt (by simp)).cell 0
  have hlen := hr.len
  have HF := Lib.hid hf
  have HR := Lib.hid hr
  have HN1 := Lib.hid hN1
  have HN := Lib.hid hN
  have HS0 := Lib.hid hS0
  have HJ := Lib.hid hJ
  have HY := Lib.hid hY
  have H0 := Lib.hid h0
  have HNN := Lib.hid hn
  have HS := Lib.hid hs
  have HBE := Lib.hid hbe
  have HE := Lib.hid he
  clear he hbe hs hn h0 hY hJ hS0 hN hN1 hr hf
  go_enter Tryd.func88, Tryd.ntmps88
  go_wp2_with fail
  go_loopw [8] (fun s8 wr => ∃ j : Nat, s8 = .int .i64 j ∧ j ≤ n ∧ J (butL L e j).length wr ∧ Frm N S0 W wr) (fun s8 _ => n - (intOf s8).toNat)
  case atStart => exact ⟨0, rfl, Nat.zero_le _, H0.out, Frm.refl _ _ _⟩
  case round =>
    obtain ⟨j, rfl, hj, hJj, hfr⟩ := hrel
    by_cases hjl : j < n
    · have hjl' : (j : Int) < (n : Int) := by omega
      have had := HR.out.ad (by omega)
      subst had
      have f0 : Frm w0.heap.size [] w0 wr := HF.out.call hfr HN1.out (fun x hx hm => by have := HS0.out x hm; omega)
      obtain ⟨t, ht⟩ : ∃ t, t = L j := ⟨_, rfl⟩
      have hlo := (HR.out.frm f0 (Nat.le_refl _)).load (P := Tryd.prog) Tryd.underlying49 rfl hjl info49
      rw [← ht] at hlo
      have hNr : N ≤ wr.heap.size := Nat.le_trans HN.out hfr.size
      obtain ⟨w4x, w5x⟩ := wrapUp hjl hlen
      have hms := meas_up hjl
      have hsc := butL_succ L e j
      have hbit : bits BinOp.and IntKind.u64 ((e : Int) / 2 ^ j) 1 = if e.testBit j = true then 1 else 0 := bit_u64 (e := e) (i := j) HE.out
      have z1 : (0 : Int) ≤ (j : Int) := by omega
      have z2 : (j : Int) ≤ 64 := by have := HNN.out; omega
      have HFR := Lib.hid hfr
      have F0 := Lib.hid f0
      have HLO := Lib.hid hlo
      have HJJ := Lib.hid hJj
      have HTT := Lib.hid ht
      have HNR := Lib.hid hNr
      have HMS := Lib.hid hms
      have HSC := Lib.hid hsc
      clear hsc hms hNr ht hJj hlo f0 hfr
      go_wp2_with (first | (with_reducible refine atLoad 49 rfl ?_; refine wpList_loadE rfl rfl rfl HLO.out ?_) | (with_reducible refine atStore 49 rfl ?_; refine stop_ ?_))
      refine go_on ?_
      refine wpList_storeNew (P := Tryd.prog) (cs := t.cells) rfl rfl rfl rfl rfl info49 (by simp [Ta.cells, Value.oneCell']) ?_
      intro W1 hfW1 hbW1 hsz
      obtain ⟨q, hq⟩ : ∃ q, q = wr.heap.size := ⟨_, rfl⟩
      have hlo2 := load_ta hbW1
      have ce : W1.cell? ⟨eb, 0, none⟩ = some (.int .u64 (e : Int)) := (((F0.out.call hfW1 F0.out.size (by simp)).blk HBE.out HBE.out.lt (by simp))).cell 0
      rw [← hq] at hlo2 ⊢
      cases hb : e.testBit j
      · rw [hb, if_neg (by simp)] at hbit
        obtain ⟨hbl, hbg⟩ := butL_at L e hjl hb
        obtain ⟨fn, tms, asg, bdy, hy1, hR1⟩ := HY.out (butL L e j).length wr W1 hbl HNR.out HJJ.out hfW1
        rw [hbg, ← HTT.out, show t.cells.toArray = #[.int .i64 t.long, .int .i64 t.wide, .int .i64 t.deep, .int .i64 t.floor] from rfl] at hy1
        have q0 : W1.cell? ⟨q, 0, none⟩ = some (.int .i64 t.long) := by rw [hq]; exact hbW1.cell 0
        have q1 : W1.cell? ⟨q, 1, none⟩ = some (.int .i64 t.wide) := by rw [hq]; exact hbW1.cell 1
        have q2 : W1.cell? ⟨q, 2, none⟩ = some (.int .i64 t.deep) := by rw [hq]; exact hbW1.cell 2
        have q3 : W1.cell? ⟨q, 3, none⟩ = some (.int .i64 t.floor) := by rw [hq]; exact hbW1.cell 3
        have fr1 : Frm wr.heap.size [] wr W1 := hfW1
        have hjn : (butL L e (j + 1)).length = (butL L e j).length + 1 := by rw [HSC.out, hb]; simp
        clear hfW1 hbW1 hsz hq HLO hbl hbg
        have HLO2 := Lib.hid hlo2
        have FR1 := Lib.hid fr1
        have HR1 := Lib.hid hR1
        have HJN := Lib.hid hjn
        have HB := Lib.hid hb
        clear hb hjn hR1 fr1 hlo2
        go_upto_region 3 with fail
        refine (wpIn_wide (n := m + 1)).1 ?_
        refine wpIn_region_lit ?_
        gi_wp2
        refine HR1.out.mono ?_; rintro e1 w4 ⟨hf4, rfl, hJ4⟩
        have hfr4 : Frm N S0 W w4 := (HFR.out.call FR1.out HNR.out (by simp)).trans hf4.frm
        clear hf4 FR1 HR1 HJJ HFR HLO2 q0 q1 q2 q3 ce hbit
        have HFR4 := Lib.hid hfr4
        have HJ4 := Lib.hid hJ4
        clear hJ4 hfr4
        gi_wp2
        go_wp2_with fail
        (try simp only [w4x, w5x])
        exact ⟨⟨j + 1, by simp, hjl, by rw [HJN.out]; exact HJ4.out, HFR4.out⟩, HMS.out⟩
      · rw [hb, if_pos rfl] at hbit
        have fr1 : Frm wr.heap.size [] wr W1 := hfW1
        have hjn : (butL L e (j + 1)).length = (butL L e j).length := by rw [HSC.out, hb]; simp
        have hJ2 := HJ.out _ _ _ HNR.out HJJ.out hfW1
        have hfr2 := HFR.out.call hfW1 HNR.out (by simp)
        clear hfW1 hbW1 hsz hq HLO hlo2 fr1
        have HJN := Lib.hid hjn
        have HB := Lib.hid hb
        have HJ2 := Lib.hid hJ2
        have HFR2 := Lib.hid hfr2
        clear hfr2 hJ2 hb hjn
        go_wp2_with fail
        (try simp only [w4x, w5x])
        exact ⟨⟨j + 1, by simp, hjl, by rw [HJN.out]; exact HJ2.out, HFR2.out⟩, HMS.out⟩
    · have hjl' : ¬ (j : Int) < (n : Int) := by omega
      obtain rfl : j = n := by omega
      have HFR := Lib.hid hfr
      have HJJ := Lib.hid hJj
      clear hJj hfr
      go_wp2_with fail
      go_end0
      exact ⟨⟨_, rfl⟩, HFR.out, HJJ.out⟩
end Go.Proofs.YtfmigicmfolbjaaDoor
