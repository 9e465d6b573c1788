/-
  The document's ships; whether a number is in a list.
-/
import Derived.Test.YtfmigicmfolbjaaDoorP3
import Derived.Test.YtfmigicmfolbjaaDoorLawLifts
namespace Go.Proofs.YtfmigicmfolbjaaDoor
set_option linter.all false
set_option linter.unusedSimpArgs false
set_option linter.unusedVariables false
open Go.RowKit

theorem rwI_newO {W : World} {h : Nat} {l : List Int} (hb : Blk W h 3 (l.map fun x => Value.int .i64 x)) (hl : l.length ≤ 1000) : RwI W (some ⟨h, 0, none⟩) h 0 l.length (numsF l) := rwI_new hb hl
set_option maxRecDepth 100000 in
set_option maxHeartbeats 8000000 in
theorem refShip_any (h : Hu) (ad : Option Addr) (b off n cap : Nat) (L : Nat → Ta) (w : World) (hr : Rw w 4 ad b off n fun i => (L i).cells) :
    Calls Tryd.prog 25 #[.agg h.cells.toArray, .slice ad n cap] w fun e w' => e = .returned (.bool (huB h && tasB n L)) ∧ Frm w.heap.size [] w w' := by
  have hf0 := Tryd.func25
  obtain ⟨res, hrs⟩ : ∃ r, r = (huB h && tasB n L) := ⟨_, rfl⟩
  rw [← hrs]
  have HR := Lib.hid hr
  have HRS := Lib.hid hrs
  clear hrs hr
  go_enter Tryd.func25, Tryd.ntmps25
  go_upto_region 1 with fail
  refine namedC ?_; intro W hW
  obtain ⟨c, hc⟩ : ∃ c, c = w.heap.size := ⟨_, rfl⟩
  have k0 : Blk W c 41 h.cells := by rw [hW, hc]; exact Blk.new w 41 h.cells
  have hf : Frm w.heap.size [] w W := by rw [hW]; repeat (first | with_reducible exact Frm.refl _ _ _ | with_reducible refine Frm.drewN ?_ | with_reducible refine Frm.drew ?_ | ((with_reducible refine Frm.setCell' ?_ ?_); · first | (left; simp; done) | (right; simp; done) | (right; simp; omega)) | ((with_reducible refine Frm.alloc' ?_ ?_); · first | exact Nat.le_refl _ | (simp; done) | (simp; omega)))
  clear hW hf0
  rw [← hc]
  have K0 := Lib.hid k0
  have HF := Lib.hid hf
  have HC := Lib.hid hc
  clear hc hf k0
  go_wp2_with fail
  go_loopw [5] (fun s5 wr => ∃ j : Nat, s5 = .int .i64 j ∧ j ≤ n ∧ (∀ k, k < j → taB (L k) = true) ∧ Frm W.heap.size [] W wr) (fun s5 _ => n - (intOf s5).toNat)
  case atStart => exact ⟨0, rfl, Nat.zero_le _, fun k hk => absurd hk (by omega), Frm.refl _ _ _⟩
  case round =>
    obtain ⟨j, rfl, hj, hall, hfr⟩ := hrel
    by_cases hjl : j < n
    · have hjl' : (j : Int) < (n : Int) := by omega
      have had := HR.out.ad (by omega)
      subst had
      obtain ⟨w4, w5⟩ := wrapUp hjl HR.out.len
      have hms := meas_up hjl
      have hjln := hjl
      obtain ⟨q, hq⟩ : ∃ q, q = L j := ⟨_, rfl⟩
      have hfx : ∀ X, Frm wr.heap.size [] wr X → X.cell? ⟨b, off + j * 4, none⟩ = some (.int .i64 q.long) ∧ X.cell? ⟨b, off + j * 4 + 1, none⟩ = some (.int .i64 q.wide) ∧ X.cell? ⟨b, off + j * 4 + 2, none⟩ = some (.int .i64 q.deep) ∧ X.cell? ⟨b, off + j * 4 + 3, none⟩ = some (.int .i64 q.floor) := fun X hX => by
        have h1 := HR.out.frm (HF.out.call (hfr.call hX hfr.size (by simp)) HF.out.size (by simp)) (Nat.le_refl _)
        rw [hq]
        refine ⟨?_, ?_, ?_, ?_⟩
        · have := h1.at_ j hjln 0 _ rfl; simpa using this
        · exact h1.at_ j hjln 1 _ rfl
        · exact h1.at_ j hjln 2 _ rfl
        · exact h1.at_ j hjln 3 _ rfl
      obtain ⟨ok, hok⟩ : ∃ x, x = taB (L j) := ⟨_, rfl⟩
      have hok2 : allIn (numsF q.list) 4 0 10000 = ok := by rw [hok, hq]; rfl
      clear hjln
      have HALL := Lib.hid hall
      have HJL := Lib.hid hjl
      have HFX := Lib.hid hfx
      have HFR := Lib.hid hfr
      have HOK := Lib.hid hok
      have HOK2 := Lib.hid hok2
      have HQ := Lib.hid hq
      have HMS := Lib.hid hms
      clear hms hq hok2 hok hfr hfx hjl hall
      go_upto_region 4 with fail
      refine wp_region_leftL (fun V => Frm wr.heap.size [] wr V) 1000 (by kernel_rfl) ?_
      have hS : Frm wr.heap.size [] wr wr.drew := (Frm.refl _ _ wr).drew
      have HS := Lib.hid hS
      clear hS
      first | ((first | refine LeftL.tkF (v := ?_) 0 rfl HS.out ?_ ?_ | refine LeftL.tkG (v := ?_) 0 rfl HS.out ?_ ?_); rotate_left; (· intro V hV; obtain ⟨q0, q1, q2, q3⟩ := HFX.out V hV; clear hV; go_simp; rfl)) | refine LeftL.tkN 0 rfl HS.out ?_
      (intro K' hK'; go_simp; refine hK' _ ?_; clear hK' K')
      first | ((first | refine LeftL.tkF (v := ?_) 1 rfl HS.out ?_ ?_ | refine LeftL.tkG (v := ?_) 1 rfl HS.out ?_ ?_); rotate_left; (· intro V hV; obtain ⟨q0, q1, q2, q3⟩ := HFX.out V hV; clear hV; go_simp; rfl)) | refine LeftL.tkN 1 rfl HS.out ?_
      (intro K' hK'; go_simp; refine hK' _ ?_; clear hK' K')
      first | ((first | refine LeftL.tkF (v := ?_) 2 rfl HS.out ?_ ?_ | refine LeftL.tkG (v := ?_) 2 rfl HS.out ?_ ?_); rotate_left; (· intro V hV; obtain ⟨q0, q1, q2, q3⟩ := HFX.out V hV; clear hV; go_simp; rfl)) | refine LeftL.tkN 2 rfl HS.out ?_
      (intro K' hK'; go_simp; refine hK' _ ?_; clear hK' K')
      first | ((first | refine LeftL.tkF (v := ?_) 3 rfl HS.out ?_ ?_ | refine LeftL.tkG (v := ?_) 3 rfl HS.out ?_ ?_); rotate_left; (· intro V hV; obtain ⟨q0, q1, q2, q3⟩ := HFX.out V hV; clear hV; go_simp; rfl)) | refine LeftL.tkN 3 rfl HS.out ?_
      (intro K' hK'; go_simp; refine hK' _ ?_; clear hK' K')
      first | ((first | refine LeftL.tkF (v := ?_) 4 rfl HS.out ?_ ?_ | refine LeftL.tkG (v := ?_) 4 rfl HS.out ?_ ?_); rotate_left; (· intro V hV; obtain ⟨q0, q1, q2, q3⟩ := HFX.out V hV; clear hV; go_simp; rfl)) | refine LeftL.tkN 4 rfl HS.out ?_
      (intro K' hK'; go_simp; refine hK' _ ?_; clear hK' K')
      first | ((first | refine LeftL.tkF (v := ?_) 5 rfl HS.out ?_ ?_ | refine LeftL.tkG (v := ?_) 5 rfl HS.out ?_ ?_); rotate_left; (· intro V hV; obtain ⟨q0, q1, q2, q3⟩ := HFX.out V hV; clear hV; go_simp; rfl)) | refine LeftL.tkN 5 rfl HS.out ?_
      (intro K' hK'; go_simp; refine hK' _ ?_; clear hK' K')
      first | ((first | refine LeftL.tkF (v := ?_) 6 rfl HS.out ?_ ?_ | refine LeftL.tkG (v := ?_) 6 rfl HS.out ?_ ?_); rotate_left; (· intro V hV; obtain ⟨q0, q1, q2, q3⟩ := HFX.out V hV; clear hV; go_simp; rfl)) | refine LeftL.tkN 6 rfl HS.out ?_
      (intro K' hK'; go_simp; refine hK' _ ?_; clear hK' K')
      first | ((first | refine LeftL.tkF (v := ?_) 7 rfl HS.out ?_ ?_ | refine LeftL.tkG (v := ?_) 7 rfl HS.out ?_ ?_); rotate_left; (· intro V hV; obtain ⟨q0, q1, q2, q3⟩ := HFX.out V hV; clear hV; go_simp; rfl)) | refine LeftL.tkN 7 rfl HS.out ?_
      (intro K' hK'; go_simp; refine hK' _ ?_; clear hK' K')
      first | ((first | refine LeftL.tkF (v := ?_) 8 rfl HS.out ?_ ?_ | refine LeftL.tkG (v := ?_) 8 rfl HS.out ?_ ?_); rotate_left; (· intro V hV; obtain ⟨q0, q1, q2, q3⟩ := HFX.out V hV; clear hV; go_simp; rfl)) | refine LeftL.tkN 8 rfl HS.out ?_
      (intro K' hK'; go_simp; refine hK' _ ?_; clear hK' K')
      first | ((first | refine LeftL.tkF (v := ?_) 9 rfl HS.out ?_ ?_ | refine LeftL.tkG (v := ?_) 9 rfl HS.out ?_ ?_); rotate_left; (· intro V hV; obtain ⟨q0, q1, q2, q3⟩ := HFX.out V hV; clear hV; go_simp; rfl)) | refine LeftL.tkN 9 rfl HS.out ?_
      (intro K' hK'; go_simp; refine hK' _ ?_; clear hK' K')
      first | ((first | refine LeftL.tkF (v := ?_) 10 rfl HS.out ?_ ?_ | refine LeftL.tkG (v := ?_) 10 rfl HS.out ?_ ?_); rotate_left; (· intro V hV; obtain ⟨q0, q1, q2, q3⟩ := HFX.out V hV; clear hV; go_simp; rfl)) | refine LeftL.tkN 10 rfl HS.out ?_
      (intro K' hK'; go_simp; refine hK' _ ?_; clear hK' K')
      first | ((first | refine LeftL.tkF (v := ?_) 11 rfl HS.out ?_ ?_ | refine LeftL.tkG (v := ?_) 11 rfl HS.out ?_ ?_); rotate_left; (· intro V hV; obtain ⟨q0, q1, q2, q3⟩ := HFX.out V hV; clear hV; go_simp; rfl)) | refine LeftL.tkN 11 rfl HS.out ?_
      (intro K' hK'; go_simp; refine hK' _ ?_; clear hK' K')
      first | ((first | refine LeftL.tkF (v := ?_) 12 rfl HS.out ?_ ?_ | refine LeftL.tkG (v := ?_) 12 rfl HS.out ?_ ?_); rotate_left; (· intro V hV; obtain ⟨q0, q1, q2, q3⟩ := HFX.out V hV; clear hV; go_simp; rfl)) | refine LeftL.tkN 12 rfl HS.out ?_
      (intro K' hK'; go_simp; refine hK' _ ?_; clear hK' K')
      first | ((first | refine LeftL.tkF (v := ?_) 13 rfl HS.out ?_ ?_ | refine LeftL.tkG (v := ?_) 13 rfl HS.out ?_ ?_); rotate_left; (· intro V hV; obtain ⟨q0, q1, q2, q3⟩ := HFX.out V hV; clear hV; go_simp; rfl)) | refine LeftL.tkN 13 rfl HS.out ?_
      (intro K' hK'; go_simp; refine hK' _ ?_; clear hK' K')
      first | ((first | refine LeftL.tkF (v := ?_) 14 rfl HS.out ?_ ?_ | refine LeftL.tkG (v := ?_) 14 rfl HS.out ?_ ?_); rotate_left; (· intro V hV; obtain ⟨q0, q1, q2, q3⟩ := HFX.out V hV; clear hV; go_simp; rfl)) | refine LeftL.tkN 14 rfl HS.out ?_
      (intro K' hK'; go_simp; refine hK' _ ?_; clear hK' K')
      first | ((first | refine LeftL.tkF (v := ?_) 15 rfl HS.out ?_ ?_ | refine LeftL.tkG (v := ?_) 15 rfl HS.out ?_ ?_); rotate_left; (· intro V hV; obtain ⟨q0, q1, q2, q3⟩ := HFX.out V hV; clear hV; go_simp; rfl)) | refine LeftL.tkN 15 rfl HS.out ?_
      (intro K' hK'; go_simp; refine hK' _ ?_; clear hK' K')
      first | ((first | refine LeftL.tkF (v := ?_) 16 rfl HS.out ?_ ?_ | refine LeftL.tkG (v := ?_) 16 rfl HS.out ?_ ?_); rotate_left; (· intro V hV; obtain ⟨q0, q1, q2, q3⟩ := HFX.out V hV; clear hV; go_simp; rfl)) | refine LeftL.tkN 16 rfl HS.out ?_
      (intro K' hK'; go_simp; refine hK' _ ?_; clear hK' K')
      first | ((first | refine LeftL.tkF (v := ?_) 17 rfl HS.out ?_ ?_ | refine LeftL.tkG (v := ?_) 17 rfl HS.out ?_ ?_); rotate_left; (· intro V hV; obtain ⟨q0, q1, q2, q3⟩ := HFX.out V hV; clear hV; go_simp; rfl)) | refine LeftL.tkN 17 rfl HS.out ?_
      (intro K' hK'; go_simp; refine hK' _ ?_; clear hK' K')
      first | ((first | refine LeftL.tkF (v := ?_) 18 rfl HS.out ?_ ?_ | refine LeftL.tkG (v := ?_) 18 rfl HS.out ?_ ?_); rotate_left; (· intro V hV; obtain ⟨q0, q1, q2, q3⟩ := HFX.out V hV; clear hV; go_simp; rfl)) | refine LeftL.tkN 18 rfl HS.out ?_
      (intro K' hK'; go_simp; refine hK' _ ?_; clear hK' K')
      first | ((first | refine LeftL.tkF (v := ?_) 19 rfl HS.out ?_ ?_ | refine LeftL.tkG (v := ?_) 19 rfl HS.out ?_ ?_); rotate_left; (· intro V hV; obtain ⟨q0, q1, q2, q3⟩ := HFX.out V hV; clear hV; go_simp; rfl)) | refine LeftL.tkN 19 rfl HS.out ?_
      (intro K' hK'; go_simp; refine hK' _ ?_; clear hK' K')
      refine LeftL.one 20 rfl (by kernel_rfl) ?_
      go_wp2_with fail
      refine ⟨fun _ => HS.out.alloc (Nat.le_refl _) _, ?_⟩
      refine LeftL.one 21 rfl (by kernel_rfl) ?_
      go_wp2_with fail
      refine namedCalls ?_; intro V hV
      have hbn : Blk V wr.heap.size 3 (q.list.map fun x => Value.int .i64 x) := by rw [hV]; exact Blk.new' _ 3 (q.list.map fun x => Value.int .i64 x) rfl
      have hfV : Frm wr.heap.size [] wr V := by rw [hV]; exact HS.out.alloc (Nat.le_refl _) _
      clear hV HS
      refine (refAll_any 0 10000 _ wr.heap.size 0 4 4 (numsF q.list) V (rwI_new hbn (show 4 ≤ 1000 by omega))).mono ?_; rintro e w1 ⟨rfl, hf1⟩
      rw [HOK2.out]
      have hS1 := hfV.call hf1 hfV.size (by simp)
      clear hf1 hfV hbn
      have HS := Lib.hid hS1
      clear hS1
      go_wp2_with fail
      first | refine ⟨fun _ => HS.out, ?_⟩ | refine ⟨HS.out, ?_⟩
      first | ((first | refine LeftL.tkF (v := ?_) 22 rfl HS.out ?_ ?_ | refine LeftL.tkG (v := ?_) 22 rfl HS.out ?_ ?_); rotate_left; (· intro V hV; obtain ⟨q0, q1, q2, q3⟩ := HFX.out V hV; clear hV; go_simp; rfl)) | refine LeftL.tkN 22 rfl HS.out ?_
      (intro K' hK'; go_simp; refine hK' _ ?_; clear hK' K')
      refine LeftL.done (by kernel_rfl) ?_
      have hfr := HFR.out.call HS.out HFR.out.size (by simp)
      clear HFR HFX HS
      cases ok
      · have hres : res = false := by
          rw [HRS.out]
          unfold tasB
          rw [show ((List.range n).all fun i => taB (L i)) = false from by
            rw [← Bool.not_eq_true, List.all_eq_true]
            intro h
            have := h j (by simpa using HJL.out)
            rw [← HOK.out] at this
            cases this]
          simp
        subst hres
        have HFR := Lib.hid hfr
        clear hfr
        go_wp2_with fail
        go_ret
        exact ⟨rfl, HF.out.call HFR.out HF.out.size (by simp)⟩
      · have hall2 : ∀ k, k < j + 1 → taB (L k) = true := fun k hk => by
          rcases Nat.lt_or_ge k j with h | h
          · exact HALL.out k h
          · obtain rfl : k = j := by omega
            exact HOK.out.symm
        have HFR := Lib.hid hfr
        have HALL2 := Lib.hid hall2
        clear hall2 hfr
        go_wp2_with fail
        (try simp only [w4, w5])
        exact ⟨⟨j + 1, by simp, HJL.out, HALL2.out, HFR.out⟩, HMS.out⟩
    · have hjl' : ¬ (j : Int) < (n : Int) := by omega
      obtain rfl : j = n := by omega
      have hta : tasB j L = true := by unfold tasB; rw [List.all_eq_true]; intro i hi; exact hall i (by simpa using hi)
      have k1 := hfr.blk K0.out K0.out.lt (by simp)
      have c0 : wr.cell? ⟨c, 0, none⟩ = some (.int .i64 h.tons) := k1.cell 0
      have c1 : wr.cell? ⟨c, 1, none⟩ = some (.int .i64 h.meta_) := k1.cell 1
      have c2 : wr.cell? ⟨c, 2, none⟩ = some (.int .i64 h.centre) := k1.cell 2
      clear k1 hall
      have HFR := Lib.hid hfr
      have HTA := Lib.hid hta
      clear hta hfr
      go_wp2_with fail
      refine (refin_any _ _ _ _).mono ?_; rintro e w' ⟨rfl, rfl⟩
      cases ht : inB h.tons 1 1000000
      · have hres : res = false := by rw [HRS.out]; unfold huB; rw [ht]; rfl
        subst hres
        have HT := Lib.hid ht
        clear ht
        go_wp2_with fail
        go_ret
        exact ⟨rfl, HF.out.call HFR.out HF.out.size (by simp)⟩
      have HT := Lib.hid ht
      clear ht
      go_wp2_with fail
      refine namedCalls ?_; intro V hV
      have hbn : Blk V wr.heap.size 3 ([h.meta_, h.centre].map fun x => Value.int .i64 x) := by rw [hV]; exact Blk.new wr 3 ([h.meta_, h.centre].map fun x => Value.int .i64 x)
      have hf2 : Frm wr.heap.size [] wr V := by rw [hV]; exact (Frm.refl _ _ wr).alloc (Nat.le_refl _) _
      clear hV
      refine (refAll_any 0 10000 _ wr.heap.size 0 2 2 (numsF [h.meta_, h.centre]) V (rwI_new hbn (show 2 ≤ 1000 by omega))).mono ?_; rintro e w1 ⟨rfl, hf1⟩
      have hf3 := HFR.out.call (hf2.call hf1 hf2.size (by simp)) HFR.out.size (by simp)
      have hres : allIn (numsF [h.meta_, h.centre]) 2 0 10000 = res := by rw [HRS.out, HTA.out]; unfold huB; rw [HT.out]; simp
      rw [hres]
      clear hf1 hf2 hbn HFR c0 c1 c2 hres
      have HFR := Lib.hid hf3
      clear hf3
      go_wp2_with fail
      go_ret
      exact ⟨rfl, HF.out.call HFR.out HF.out.size (by simp)⟩
def inF (F : Nat → Int) (n : Nat) (x : Int) : Bool := (List.range n).any fun i => decide (F i = x)
theorem inF_no {F : Nat → Int} {n : Nat} {x : Int} (h : ∀ i, i < n → F i ≠ x) : inF F n x = false := by
  unfold inF
  rw [List.any_eq_false]
  intro i hi
  have := h i (by simpa using hi)
  simpa using this
theorem inF_yes {F : Nat → Int} {n i : Nat} {x : Int} (hi : i < n) (h : F i = x) : inF F n x = true := by
  unfold inF
  rw [List.any_eq_true]
  exact ⟨i, by simpa using hi, by simpa using h⟩
set_option maxRecDepth 100000 in
set_option maxHeartbeats 8000000 in
theorem in_any (ad : Option Addr) (b off n cap : Nat) (F : Nat → Int) (x : Int) (w : World) (hr : RwI w ad b off n F) :
    Calls Tryd.prog 26 #[.slice ad n cap, .int .i64 x] w fun e w' => e = .returned (.bool (inF F n x)) ∧ Frm w.heap.size [] w w' := by
  have hf0 := Tryd.func26
  obtain ⟨res, hrs⟩ : ∃ r, r = inF F n x := ⟨_, rfl⟩
  rw [← hrs]
  have hlen := hr.len
  have HR := Lib.hid hr
  have HRS := Lib.hid hrs
  clear hrs hr
  go_enter Tryd.func26, Tryd.ntmps26
  go_wp2_with fail
  go_loopw [5] (fun s5 wr => ∃ j : Nat, s5 = .int .i64 j ∧ j ≤ n ∧ (∀ k, k < j → F k ≠ x) ∧ Frm w.heap.size [] w wr) (fun s5 _ => n - (intOf s5).toNat)
  case atStart => exact ⟨0, rfl, Nat.zero_le _, fun k hk => absurd hk (by omega), Frm.refl _ _ _⟩
  case round =>
    obtain ⟨j, rfl, hj, hall, hfr⟩ := hrel
    by_cases hjl : j < n
    · have hjl' : (j : Int) < (n : Int) := by omega
      have had := HR.out.ad (by omega)
      subst had
      obtain ⟨w4, w5⟩ := wrapUp hjl hlen
      have hms := meas_up hjl
      obtain ⟨y, hy⟩ : ∃ y, y = F j := ⟨_, rfl⟩
      have c1 : wr.cell? ⟨b, off + j, none⟩ = some (.int .i64 y) := by rw [hy]; exact (HR.out.frm hfr (Nat.le_refl _)).cellI hjl
      by_cases he : y = x
      · have he2 : (y == x) = true := by simp [he]
        have hres : res = true := by rw [HRS.out]; exact inF_yes hjl (by rw [← hy]; exact he)
        subst hres
        have HALL := Lib.hid hall
        have HY := Lib.hid hy
        have HMS := Lib.hid hms
        have HJL := Lib.hid hjl
        have HFR := Lib.hid hfr
        clear hfr hjl hms hy hall
        go_wp2_with fail
        go_ret
        exact ⟨rfl, HFR.out⟩
      · have he2 : (y == x) = false := by simp [he]
        have hall2 : ∀ k, k < j + 1 → F k ≠ x := fun k hk => by
          rcases Nat.lt_or_ge k j with h | h
          · exact hall k h
          · obtain rfl : k = j := by omega
            rw [← hy]; exact he
        clear hall
        have HALL := Lib.hid hall2
        have HY := Lib.hid hy
        have HMS := Lib.hid hms
        have HJL := Lib.hid hjl
        have HFR := Lib.hid hfr
        clear hfr hjl hms hy hall2
        go_wp2_with fail
        (try simp only [w4, w5])
        exact ⟨⟨j + 1, by simp, HJL.out, HALL.out, HFR.out⟩, HMS.out⟩
    · have hjl' : ¬ (j : Int) < (n : Int) := by omega
      obtain rfl : j = n := by omega
      have hres : res = false := by rw [HRS.out]; exact inF_no hall
      subst hres
      clear hall
      have HFR := Lib.hid hfr
      clear hfr
      go_wp2_with fail
      go_ret
      exact ⟨rfl, HFR.out⟩
end Go.Proofs.YtfmigicmfolbjaaDoor
