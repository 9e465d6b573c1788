/-
  Which of two choices is better, in the document's words.
-/
import Derived.Test.YtghkfopcjdkieaaDoorS4
namespace Go.Proofs.YtghkfopcjdkieaaDoor
set_option linter.all false
set_option linter.unusedSimpArgs false
set_option linter.unusedVariables false
open Go.RowKit

def lexB (F G : Nat → Int) : Nat → Nat → Bool
  | _, 0 => false
  | i, k + 1 => if F i = G i then lexB F G (i + 1) k else decide (F i < G i)
def at0 (l : List Nat) (i : Nat) : Int := (l.getD i 0 : Int)
def betterB (a b : SC) : Bool :=
  if b.found = false then true else if a.late = b.late then (if a.sum = b.sum then lexB (at0 a.which) (at0 b.which) 0 a.which.length else decide (a.sum < b.sum)) else decide (a.late < b.late)
def chC (s : SC) (ov : Value) : List Value := [.int .i64 s.late, .int .i64 s.sum, ov, .bool s.found]
theorem info128 : (Tryd.prog.info? 128).map (fun i => i.size) = some 4 := by kernel_rfl

set_option maxRecDepth 100000 in
set_option maxHeartbeats 8000000 in
theorem better_any (a b : SC) (aa : Option Addr) (ab ao na acap : Nat) (ba : Option Addr) (bb bo nb bcap : Nat) (w : World) (hra : RwI w aa ab ao na (at0 a.which)) (hrb : RwI w ba bb bo nb (at0 b.which)) (hna : na = a.which.length) (hnb : b.found = true → nb = na) :
    Calls Tryd.prog 115 #[.agg (chC a (.slice aa na acap)).toArray, .agg (chC b (.slice ba nb bcap)).toArray] w fun en w' => en = .returned (.bool (betterB a b)) ∧ Frm w.heap.size [] w w' := by
  have hf0 := Tryd.func115
  have HNA0 := Lib.hid hna
  have HNB0 := Lib.hid hnb
  clear hna hnb
  go_enter Tryd.func115, Tryd.ntmps115
  go_upto_region 1 with fail
  refine namedC ?_; intro W hW
  obtain ⟨c, hcc⟩ : ∃ c, c = w.heap.size := ⟨_, rfl⟩
  have b0 : Blk W c 128 (chC a (.slice aa na acap)) := by rw [hW, hcc]; exact (Blk.new w 128 (chC a (.slice aa na acap))).alloc _
  have b1 : Blk W (c + 1) 128 (chC b (.slice ba nb bcap)) := by rw [hW, hcc]; exact Blk.new' _ 128 (chC b (.slice ba nb bcap)) (by simp)
  have hf : Frm w.heap.size [] w W := by rw [hW]; repeat (first | with_reducible exact Frm.refl _ _ _ | with_reducible refine Frm.drewN ?_ | with_reducible refine Frm.drew ?_ | ((with_reducible refine Frm.setCell' ?_ ?_); · first | (left; simp; done) | (right; simp; done) | (right; simp; omega)) | ((with_reducible refine Frm.alloc' ?_ ?_); · first | exact Nat.le_refl _ | (simp; done) | (simp; omega)))
  clear hW hf0
  rw [← hcc]
  have hna := HNA0.out
  have hnb := HNB0.out
  clear HNA0 HNB0
  obtain ⟨alist, al, as_, af⟩ := a
  obtain ⟨blist, bl, bs, bf⟩ := b
  have k0 : W.cell? ⟨c, 0, none⟩ = some (.int .i64 al) := b0.cell 0
  have k1 : W.cell? ⟨c, 1, none⟩ = some (.int .i64 as_) := b0.cell 1
  have k2 : W.cell? ⟨c, 2, none⟩ = some (.slice aa na acap) := b0.cell 2
  have m0 : W.cell? ⟨c + 1, 0, none⟩ = some (.int .i64 bl) := b1.cell 0
  have m1 : W.cell? ⟨c + 1, 1, none⟩ = some (.int .i64 bs) := b1.cell 1
  have m2 : W.cell? ⟨c + 1, 2, none⟩ = some (.slice ba nb bcap) := b1.cell 2
  have m3 : W.cell? ⟨c + 1, 3, none⟩ = some (.bool bf) := b1.cell 3
  dsimp only at hnb hna hra hrb
  have HRA := Lib.hid hra
  have HRB := Lib.hid hrb
  have HNA := Lib.hid hna
  have HNB := Lib.hid hnb
  have B0 := Lib.hid b0
  have B1 := Lib.hid b1
  have HF := Lib.hid hf
  have HCC := Lib.hid hcc
  clear hcc hf b1 b0 hnb hna hrb hra
  cases bf
  · go_wp2_with fail
    go_ret
    exact ⟨by simp [betterB], HF.out⟩
  by_cases h1 : al = bl
  rotate_left
  · have h1' : (al == bl) = false := by simp [h1]
    have h1n : (al != bl) = true := by simp [h1]
    by_cases h2 : al < bl
    · go_wp2_with fail
      go_ret
      exact ⟨by simp [betterB, h1, h2], HF.out⟩
    · go_wp2_with fail
      go_ret
      exact ⟨by simp [betterB, h1, h2], HF.out⟩
  have h1' : (al == bl) = true := by simp [h1]
  have h1n : (al != bl) = false := by simp [h1]
  have H1 := Lib.hid h1
  clear h1
  by_cases h3 : as_ = bs
  rotate_left
  · have h3' : (as_ == bs) = false := by simp [h3]
    have h3n : (as_ != bs) = true := by simp [h3]
    by_cases h2 : as_ < bs
    · go_wp2_with fail
      go_ret
      exact ⟨by simp [betterB, H1.out, h3, h2], HF.out⟩
    · go_wp2_with fail
      go_ret
      exact ⟨by simp [betterB, H1.out, h3, h2], HF.out⟩
  have h3' : (as_ == bs) = true := by simp [h3]
  have h3n : (as_ != bs) = false := by simp [h3]
  have hbe : betterB ⟨alist, al, as_, af⟩ ⟨blist, bl, bs, true⟩ = lexB (at0 alist) (at0 blist) 0 na := by unfold betterB; simp [H1.out, h3, HNA.out]
  have H3 := Lib.hid h3
  have HBE := Lib.hid hbe
  clear hbe h3
  have hnn := HNB.out rfl
  subst hnn
  go_wp2_with fail
  clear k0 k1 k2 m0 m1 m2 m3 h1' h1n h3' h3n
  go_loopw [5] (fun i5 wr => ∃ j : Nat, i5 = .int .i64 j ∧ j ≤ nb ∧ lexB (at0 alist) (at0 blist) 0 nb = lexB (at0 alist) (at0 blist) j (nb - j) ∧ Frm W.heap.size [] W wr) (fun i5 _ => nb - (intOf i5).toNat)
  case atStart => exact ⟨0, rfl, Nat.zero_le _, rfl, by repeat (first | with_reducible exact Frm.refl _ _ _ | with_reducible refine Frm.drewN ?_ | with_reducible refine Frm.drew ?_ | ((with_reducible refine Frm.setCell' ?_ ?_); · first | (left; simp; done) | (right; simp; done) | (right; simp; omega)) | ((with_reducible refine Frm.alloc' ?_ ?_); · first | exact Nat.le_refl _ | (simp; done) | (simp; omega)))⟩
  case round =>
    obtain ⟨j, rfl, hj, hlx, hfr⟩ := hrel
    have c2 : wr.cell? ⟨c, 2, none⟩ = some (.slice aa nb acap) := (hfr.blk B0.out B0.out.lt (by simp)).cell 2
    by_cases hjl : j < nb
    · have hjl' : (j : Int) < (nb : Int) := by omega
      have haa := HRA.out.ad (by omega)
      have hba := HRB.out.ad (by omega)
      subst haa
      subst hba
      obtain ⟨x, hx⟩ : ∃ x, x = at0 alist j := ⟨_, rfl⟩
      obtain ⟨y, hy⟩ : ∃ y, y = at0 blist j := ⟨_, rfl⟩
      have hfx : ∀ V, Frm wr.heap.size [] wr V → V.cell? ⟨c, 2, none⟩ = some (.slice (some ⟨ab, ao, none⟩) nb acap) ∧ V.cell? ⟨c + 1, 2, none⟩ = some (.slice (some ⟨bb, bo, none⟩) nb bcap) ∧ V.cell? ⟨ab, ao + j, none⟩ = some (.int .i64 x) ∧ V.cell? ⟨bb, bo + j, none⟩ = some (.int .i64 y) := fun V hV => by
        have h := hfr.call hV hfr.size (by simp)
        have h2 := HF.out.call h HF.out.size (by simp)
        exact ⟨(h.blk B0.out B0.out.lt (by simp)).cell 2, (h.blk B1.out B1.out.lt (by simp)).cell 2, by rw [hx]; exact (HRA.out.frm h2 (Nat.le_refl _)).cellI hjl, by rw [hy]; exact (HRB.out.frm h2 (Nat.le_refl _)).cellI hjl⟩
      obtain ⟨hw1, hw2⟩ := wrapUp hjl HRA.out.len
      have hstep : lexB (at0 alist) (at0 blist) j (nb - j) = if x = y then lexB (at0 alist) (at0 blist) (j + 1) (nb - (j + 1)) else decide (x < y) := by
        rw [show nb - j = (nb - (j + 1)) + 1 by omega, hx, hy]
        rfl
      have HFX := Lib.hid hfx
      have HLX := Lib.hid hlx
      have HFR := Lib.hid hfr
      have HJL := Lib.hid hjl
      have HSTEP := Lib.hid hstep
      clear hstep hjl hfr hlx hfx
      clear hx hy
      go_upto_region 8 with fail
      refine wp_region_leftL (fun V => Frm wr.heap.size [] wr V) 1000 (by kernel_rfl) ?_
      have hS : Frm wr.heap.size [] wr wr.drew := (Frm.refl _ _ wr).drew
      have HS := Lib.hid hS
      clear hS
      first | (refine LeftL.run (v := ?_) 0 rfl (by kernel_rfl) rfl (fun _ _ d _ _ h => by cases d <;> exact h) ?_ HS.out ?_; rotate_left; (· intro V hV; obtain ⟨q0, q1, q2, q3⟩ := HFX.out V hV; clear hV; go_simp; rfl); (intro K' hK'; go_simp; refine hK' _ ?_; clear hK' K')) | (refine LeftL.runG (v := ?_) 0 rfl (by kernel_rfl) rfl (fun _ _ d _ _ h => by cases d <;> exact h) ?_ HS.out ?_; rotate_left; (· intro V hV; obtain ⟨q0, q1, q2, q3⟩ := HFX.out V hV; clear hV; go_simp; rfl); (intro K' hK'; go_simp; refine hK' _ ?_; clear hK' K')) | (refine LeftL.take (v := undef) 0 rfl (by kernel_rfl) (fun _ _ d _ _ h => by cases d <;> exact h) (.inr ⟨rfl, rfl⟩) HS.out ?_; (intro K' hK'; go_simp; refine hK' _ ?_; clear hK' K'))
      first | (refine LeftL.run (v := ?_) 1 rfl (by kernel_rfl) rfl (fun _ _ d _ _ h => by cases d <;> exact h) ?_ HS.out ?_; rotate_left; (· intro V hV; obtain ⟨q0, q1, q2, q3⟩ := HFX.out V hV; clear hV; go_simp; rfl); (intro K' hK'; go_simp; refine hK' _ ?_; clear hK' K')) | (refine LeftL.runG (v := ?_) 1 rfl (by kernel_rfl) rfl (fun _ _ d _ _ h => by cases d <;> exact h) ?_ HS.out ?_; rotate_left; (· intro V hV; obtain ⟨q0, q1, q2, q3⟩ := HFX.out V hV; clear hV; go_simp; rfl); (intro K' hK'; go_simp; refine hK' _ ?_; clear hK' K')) | (refine LeftL.take (v := undef) 1 rfl (by kernel_rfl) (fun _ _ d _ _ h => by cases d <;> exact h) (.inr ⟨rfl, rfl⟩) HS.out ?_; (intro K' hK'; go_simp; refine hK' _ ?_; clear hK' K'))
      first | (refine LeftL.run (v := ?_) 2 rfl (by kernel_rfl) rfl (fun _ _ d _ _ h => by cases d <;> exact h) ?_ HS.out ?_; rotate_left; (· intro V hV; obtain ⟨q0, q1, q2, q3⟩ := HFX.out V hV; clear hV; go_simp; rfl); (intro K' hK'; go_simp; refine hK' _ ?_; clear hK' K')) | (refine LeftL.runG (v := ?_) 2 rfl (by kernel_rfl) rfl (fun _ _ d _ _ h => by cases d <;> exact h) ?_ HS.out ?_; rotate_left; (· intro V hV; obtain ⟨q0, q1, q2, q3⟩ := HFX.out V hV; clear hV; go_simp; rfl); (intro K' hK'; go_simp; refine hK' _ ?_; clear hK' K')) | (refine LeftL.take (v := undef) 2 rfl (by kernel_rfl) (fun _ _ d _ _ h => by cases d <;> exact h) (.inr ⟨rfl, rfl⟩) HS.out ?_; (intro K' hK'; go_simp; refine hK' _ ?_; clear hK' K'))
      first | (refine LeftL.run (v := ?_) 3 rfl (by kernel_rfl) rfl (fun _ _ d _ _ h => by cases d <;> exact h) ?_ HS.out ?_; rotate_left; (· intro V hV; obtain ⟨q0, q1, q2, q3⟩ := HFX.out V hV; clear hV; go_simp; rfl); (intro K' hK'; go_simp; refine hK' _ ?_; clear hK' K')) | (refine LeftL.runG (v := ?_) 3 rfl (by kernel_rfl) rfl (fun _ _ d _ _ h => by cases d <;> exact h) ?_ HS.out ?_; rotate_left; (· intro V hV; obtain ⟨q0, q1, q2, q3⟩ := HFX.out V hV; clear hV; go_simp; rfl); (intro K' hK'; go_simp; refine hK' _ ?_; clear hK' K')) | (refine LeftL.take (v := undef) 3 rfl (by kernel_rfl) (fun _ _ d _ _ h => by cases d <;> exact h) (.inr ⟨rfl, rfl⟩) HS.out ?_; (intro K' hK'; go_simp; refine hK' _ ?_; clear hK' K'))
      first | (refine LeftL.run (v := ?_) 4 rfl (by kernel_rfl) rfl (fun _ _ d _ _ h => by cases d <;> exact h) ?_ HS.out ?_; rotate_left; (· intro V hV; obtain ⟨q0, q1, q2, q3⟩ := HFX.out V hV; clear hV; go_simp; rfl); (intro K' hK'; go_simp; refine hK' _ ?_; clear hK' K')) | (refine LeftL.runG (v := ?_) 4 rfl (by kernel_rfl) rfl (fun _ _ d _ _ h => by cases d <;> exact h) ?_ HS.out ?_; rotate_left; (· intro V hV; obtain ⟨q0, q1, q2, q3⟩ := HFX.out V hV; clear hV; go_simp; rfl); (intro K' hK'; go_simp; refine hK' _ ?_; clear hK' K')) | (refine LeftL.take (v := undef) 4 rfl (by kernel_rfl) (fun _ _ d _ _ h => by cases d <;> exact h) (.inr ⟨rfl, rfl⟩) HS.out ?_; (intro K' hK'; go_simp; refine hK' _ ?_; clear hK' K'))
      first | (refine LeftL.run (v := ?_) 5 rfl (by kernel_rfl) rfl (fun _ _ d _ _ h => by cases d <;> exact h) ?_ HS.out ?_; rotate_left; (· intro V hV; obtain ⟨q0, q1, q2, q3⟩ := HFX.out V hV; clear hV; go_simp; rfl); (intro K' hK'; go_simp; refine hK' _ ?_; clear hK' K')) | (refine LeftL.runG (v := ?_) 5 rfl (by kernel_rfl) rfl (fun _ _ d _ _ h => by cases d <;> exact h) ?_ HS.out ?_; rotate_left; (· intro V hV; obtain ⟨q0, q1, q2, q3⟩ := HFX.out V hV; clear hV; go_simp; rfl); (intro K' hK'; go_simp; refine hK' _ ?_; clear hK' K')) | (refine LeftL.take (v := undef) 5 rfl (by kernel_rfl) (fun _ _ d _ _ h => by cases d <;> exact h) (.inr ⟨rfl, rfl⟩) HS.out ?_; (intro K' hK'; go_simp; refine hK' _ ?_; clear hK' K'))
      first | (refine LeftL.run (v := ?_) 6 rfl (by kernel_rfl) rfl (fun _ _ d _ _ h => by cases d <;> exact h) ?_ HS.out ?_; rotate_left; (· intro V hV; obtain ⟨q0, q1, q2, q3⟩ := HFX.out V hV; clear hV; go_simp; rfl); (intro K' hK'; go_simp; refine hK' _ ?_; clear hK' K')) | (refine LeftL.runG (v := ?_) 6 rfl (by kernel_rfl) rfl (fun _ _ d _ _ h => by cases d <;> exact h) ?_ HS.out ?_; rotate_left; (· intro V hV; obtain ⟨q0, q1, q2, q3⟩ := HFX.out V hV; clear hV; go_simp; rfl); (intro K' hK'; go_simp; refine hK' _ ?_; clear hK' K')) | (refine LeftL.take (v := undef) 6 rfl (by kernel_rfl) (fun _ _ d _ _ h => by cases d <;> exact h) (.inr ⟨rfl, rfl⟩) HS.out ?_; (intro K' hK'; go_simp; refine hK' _ ?_; clear hK' K'))
      first | (refine LeftL.run (v := ?_) 7 rfl (by kernel_rfl) rfl (fun _ _ d _ _ h => by cases d <;> exact h) ?_ HS.out ?_; rotate_left; (· intro V hV; obtain ⟨q0, q1, q2, q3⟩ := HFX.out V hV; clear hV; go_simp; rfl); (intro K' hK'; go_simp; refine hK' _ ?_; clear hK' K')) | (refine LeftL.runG (v := ?_) 7 rfl (by kernel_rfl) rfl (fun _ _ d _ _ h => by cases d <;> exact h) ?_ HS.out ?_; rotate_left; (· intro V hV; obtain ⟨q0, q1, q2, q3⟩ := HFX.out V hV; clear hV; go_simp; rfl); (intro K' hK'; go_simp; refine hK' _ ?_; clear hK' K')) | (refine LeftL.take (v := undef) 7 rfl (by kernel_rfl) (fun _ _ d _ _ h => by cases d <;> exact h) (.inr ⟨rfl, rfl⟩) HS.out ?_; (intro K' hK'; go_simp; refine hK' _ ?_; clear hK' K'))
      first | (refine LeftL.run (v := ?_) 8 rfl (by kernel_rfl) rfl (fun _ _ d _ _ h => by cases d <;> exact h) ?_ HS.out ?_; rotate_left; (· intro V hV; obtain ⟨q0, q1, q2, q3⟩ := HFX.out V hV; clear hV; go_simp; rfl); (intro K' hK'; go_simp; refine hK' _ ?_; clear hK' K')) | (refine LeftL.runG (v := ?_) 8 rfl (by kernel_rfl) rfl (fun _ _ d _ _ h => by cases d <;> exact h) ?_ HS.out ?_; rotate_left; (· intro V hV; obtain ⟨q0, q1, q2, q3⟩ := HFX.out V hV; clear hV; go_simp; rfl); (intro K' hK'; go_simp; refine hK' _ ?_; clear hK' K')) | (refine LeftL.take (v := undef) 8 rfl (by kernel_rfl) (fun _ _ d _ _ h => by cases d <;> exact h) (.inr ⟨rfl, rfl⟩) HS.out ?_; (intro K' hK'; go_simp; refine hK' _ ?_; clear hK' K'))
      first | (refine LeftL.run (v := ?_) 9 rfl (by kernel_rfl) rfl (fun _ _ d _ _ h => by cases d <;> exact h) ?_ HS.out ?_; rotate_left; (· intro V hV; obtain ⟨q0, q1, q2, q3⟩ := HFX.out V hV; clear hV; go_simp; rfl); (intro K' hK'; go_simp; refine hK' _ ?_; clear hK' K')) | (refine LeftL.runG (v := ?_) 9 rfl (by kernel_rfl) rfl (fun _ _ d _ _ h => by cases d <;> exact h) ?_ HS.out ?_; rotate_left; (· intro V hV; obtain ⟨q0, q1, q2, q3⟩ := HFX.out V hV; clear hV; go_simp; rfl); (intro K' hK'; go_simp; refine hK' _ ?_; clear hK' K')) | (refine LeftL.take (v := undef) 9 rfl (by kernel_rfl) (fun _ _ d _ _ h => by cases d <;> exact h) (.inr ⟨rfl, rfl⟩) HS.out ?_; (intro K' hK'; go_simp; refine hK' _ ?_; clear hK' K'))
      first | (refine LeftL.run (v := ?_) 10 rfl (by kernel_rfl) rfl (fun _ _ d _ _ h => by cases d <;> exact h) ?_ HS.out ?_; rotate_left; (· intro V hV; obtain ⟨q0, q1, q2, q3⟩ := HFX.out V hV; clear hV; go_simp; rfl); (intro K' hK'; go_simp; refine hK' _ ?_; clear hK' K')) | (refine LeftL.runG (v := ?_) 10 rfl (by kernel_rfl) rfl (fun _ _ d _ _ h => by cases d <;> exact h) ?_ HS.out ?_; rotate_left; (· intro V hV; obtain ⟨q0, q1, q2, q3⟩ := HFX.out V hV; clear hV; go_simp; rfl); (intro K' hK'; go_simp; refine hK' _ ?_; clear hK' K')) | (refine LeftL.take (v := undef) 10 rfl (by kernel_rfl) (fun _ _ d _ _ h => by cases d <;> exact h) (.inr ⟨rfl, rfl⟩) HS.out ?_; (intro K' hK'; go_simp; refine hK' _ ?_; clear hK' K'))
      refine LeftL.done (by kernel_rfl) ?_
      clear c2
      by_cases hxy : x = y
      · have e1 : (x == y) = true := by simp [hxy]
        have e2 : (x != y) = false := by simp [hxy]
        have HXY := Lib.hid hxy
        clear hxy
        go_wp2_with fail
        (try simp only [hw1, hw2])
        exact ⟨⟨j + 1, by simp, HJL.out, by rw [HLX.out, HSTEP.out, if_pos HXY.out], HFR.out.call HS.out HFR.out.size (by simp)⟩, meas_up HJL.out⟩
      · have e1 : (x == y) = false := by simp [hxy]
        have e2 : (x != y) = true := by simp [hxy]
        have hfx2 : ∀ V, Frm wr.drew.heap.size [] wr.drew V → V.cell? ⟨c, 2, none⟩ = some (.slice (some ⟨ab, ao, none⟩) nb acap) ∧ V.cell? ⟨c + 1, 2, none⟩ = some (.slice (some ⟨bb, bo, none⟩) nb bcap) ∧ V.cell? ⟨ab, ao + j, none⟩ = some (.int .i64 x) ∧ V.cell? ⟨bb, bo + j, none⟩ = some (.int .i64 y) := fun V hV => HFX.out V (HS.out.call hV HS.out.size (by simp))
        clear HFX
        have HXY := Lib.hid hxy
        have HFX := Lib.hid hfx2
        clear hfx2 hxy
        go_upto_region 9 with fail
        have HS0 := HS
        clear HS
        refine wp_region_leftL (fun V => Frm wr.drew.heap.size [] wr.drew V) 1000 (by kernel_rfl) ?_
        have hS : Frm wr.drew.heap.size [] wr.drew wr.drew.drew := (Frm.refl _ _ wr.drew).drew
        have HS := Lib.hid hS
        clear hS
        first | (refine LeftL.run (v := ?_) 0 rfl (by kernel_rfl) rfl (fun _ _ d _ _ h => by cases d <;> exact h) ?_ HS.out ?_; rotate_left; (· intro V hV; obtain ⟨q0, q1, q2, q3⟩ := HFX.out V hV; clear hV; go_simp; rfl); (intro K' hK'; go_simp; refine hK' _ ?_; clear hK' K')) | (refine LeftL.runG (v := ?_) 0 rfl (by kernel_rfl) rfl (fun _ _ d _ _ h => by cases d <;> exact h) ?_ HS.out ?_; rotate_left; (· intro V hV; obtain ⟨q0, q1, q2, q3⟩ := HFX.out V hV; clear hV; go_simp; rfl); (intro K' hK'; go_simp; refine hK' _ ?_; clear hK' K')) | (refine LeftL.take (v := undef) 0 rfl (by kernel_rfl) (fun _ _ d _ _ h => by cases d <;> exact h) (.inr ⟨rfl, rfl⟩) HS.out ?_; (intro K' hK'; go_simp; refine hK' _ ?_; clear hK' K'))
        first | (refine LeftL.run (v := ?_) 1 rfl (by kernel_rfl) rfl (fun _ _ d _ _ h => by cases d <;> exact h) ?_ HS.out ?_; rotate_left; (· intro V hV; obtain ⟨q0, q1, q2, q3⟩ := HFX.out V hV; clear hV; go_simp; rfl); (intro K' hK'; go_simp; refine hK' _ ?_; clear hK' K')) | (refine LeftL.runG (v := ?_) 1 rfl (by kernel_rfl) rfl (fun _ _ d _ _ h => by cases d <;> exact h) ?_ HS.out ?_; rotate_left; (· intro V hV; obtain ⟨q0, q1, q2, q3⟩ := HFX.out V hV; clear hV; go_simp; rfl); (intro K' hK'; go_simp; refine hK' _ ?_; clear hK' K')) | (refine LeftL.take (v := undef) 1 rfl (by kernel_rfl) (fun _ _ d _ _ h => by cases d <;> exact h) (.inr ⟨rfl, rfl⟩) HS.out ?_; (intro K' hK'; go_simp; refine hK' _ ?_; clear hK' K'))
        first | (refine LeftL.run (v := ?_) 2 rfl (by kernel_rfl) rfl (fun _ _ d _ _ h => by cases d <;> exact h) ?_ HS.out ?_; rotate_left; (· intro V hV; obtain ⟨q0, q1, q2, q3⟩ := HFX.out V hV; clear hV; go_simp; rfl); (intro K' hK'; go_simp; refine hK' _ ?_; clear hK' K')) | (refine LeftL.runG (v := ?_) 2 rfl (by kernel_rfl) rfl (fun _ _ d _ _ h => by cases d <;> exact h) ?_ HS.out ?_; rotate_left; (· intro V hV; obtain ⟨q0, q1, q2, q3⟩ := HFX.out V hV; clear hV; go_simp; rfl); (intro K' hK'; go_simp; refine hK' _ ?_; clear hK' K')) | (refine LeftL.take (v := undef) 2 rfl (by kernel_rfl) (fun _ _ d _ _ h => by cases d <;> exact h) (.inr ⟨rfl, rfl⟩) HS.out ?_; (intro K' hK'; go_simp; refine hK' _ ?_; clear hK' K'))
        first | (refine LeftL.run (v := ?_) 3 rfl (by kernel_rfl) rfl (fun _ _ d _ _ h => by cases d <;> exact h) ?_ HS.out ?_; rotate_left; (· intro V hV; obtain ⟨q0, q1, q2, q3⟩ := HFX.out V hV; clear hV; go_simp; rfl); (intro K' hK'; go_simp; refine hK' _ ?_; clear hK' K')) | (refine LeftL.runG (v := ?_) 3 rfl (by kernel_rfl) rfl (fun _ _ d _ _ h => by cases d <;> exact h) ?_ HS.out ?_; rotate_left; (· intro V hV; obtain ⟨q0, q1, q2, q3⟩ := HFX.out V hV; clear hV; go_simp; rfl); (intro K' hK'; go_simp; refine hK' _ ?_; clear hK' K')) | (refine LeftL.take (v := undef) 3 rfl (by kernel_rfl) (fun _ _ d _ _ h => by cases d <;> exact h) (.inr ⟨rfl, rfl⟩) HS.out ?_; (intro K' hK'; go_simp; refine hK' _ ?_; clear hK' K'))
        first | (refine LeftL.run (v := ?_) 4 rfl (by kernel_rfl) rfl (fun _ _ d _ _ h => by cases d <;> exact h) ?_ HS.out ?_; rotate_left; (· intro V hV; obtain ⟨q0, q1, q2, q3⟩ := HFX.out V hV; clear hV; go_simp; rfl); (intro K' hK'; go_simp; refine hK' _ ?_; clear hK' K')) | (refine LeftL.runG (v := ?_) 4 rfl (by kernel_rfl) rfl (fun _ _ d _ _ h => by cases d <;> exact h) ?_ HS.out ?_; rotate_left; (· intro V hV; obtain ⟨q0, q1, q2, q3⟩ := HFX.out V hV; clear hV; go_simp; rfl); (intro K' hK'; go_simp; refine hK' _ ?_; clear hK' K')) | (refine LeftL.take (v := undef) 4 rfl (by kernel_rfl) (fun _ _ d _ _ h => by cases d <;> exact h) (.inr ⟨rfl, rfl⟩) HS.out ?_; (intro K' hK'; go_simp; refine hK' _ ?_; clear hK' K'))
        first | (refine LeftL.run (v := ?_) 5 rfl (by kernel_rfl) rfl (fun _ _ d _ _ h => by cases d <;> exact h) ?_ HS.out ?_; rotate_left; (· intro V hV; obtain ⟨q0, q1, q2, q3⟩ := HFX.out V hV; clear hV; go_simp; rfl); (intro K' hK'; go_simp; refine hK' _ ?_; clear hK' K')) | (refine LeftL.runG (v := ?_) 5 rfl (by kernel_rfl) rfl (fun _ _ d _ _ h => by cases d <;> exact h) ?_ HS.out ?_; rotate_left; (· intro V hV; obtain ⟨q0, q1, q2, q3⟩ := HFX.out V hV; clear hV; go_simp; rfl); (intro K' hK'; go_simp; refine hK' _ ?_; clear hK' K')) | (refine LeftL.take (v := undef) 5 rfl (by kernel_rfl) (fun _ _ d _ _ h => by cases d <;> exact h) (.inr ⟨rfl, rfl⟩) HS.out ?_; (intro K' hK'; go_simp; refine hK' _ ?_; clear hK' K'))
        first | (refine LeftL.run (v := ?_) 6 rfl (by kernel_rfl) rfl (fun _ _ d _ _ h => by cases d <;> exact h) ?_ HS.out ?_; rotate_left; (· intro V hV; obtain ⟨q0, q1, q2, q3⟩ := HFX.out V hV; clear hV; go_simp; rfl); (intro K' hK'; go_simp; refine hK' _ ?_; clear hK' K')) | (refine LeftL.runG (v := ?_) 6 rfl (by kernel_rfl) rfl (fun _ _ d _ _ h => by cases d <;> exact h) ?_ HS.out ?_; rotate_left; (· intro V hV; obtain ⟨q0, q1, q2, q3⟩ := HFX.out V hV; clear hV; go_simp; rfl); (intro K' hK'; go_simp; refine hK' _ ?_; clear hK' K')) | (refine LeftL.take (v := undef) 6 rfl (by kernel_rfl) (fun _ _ d _ _ h => by cases d <;> exact h) (.inr ⟨rfl, rfl⟩) HS.out ?_; (intro K' hK'; go_simp; refine hK' _ ?_; clear hK' K'))
        first | (refine LeftL.run (v := ?_) 7 rfl (by kernel_rfl) rfl (fun _ _ d _ _ h => by cases d <;> exact h) ?_ HS.out ?_; rotate_left; (· intro V hV; obtain ⟨q0, q1, q2, q3⟩ := HFX.out V hV; clear hV; go_simp; rfl); (intro K' hK'; go_simp; refine hK' _ ?_; clear hK' K')) | (refine LeftL.runG (v := ?_) 7 rfl (by kernel_rfl) rfl (fun _ _ d _ _ h => by cases d <;> exact h) ?_ HS.out ?_; rotate_left; (· intro V hV; obtain ⟨q0, q1, q2, q3⟩ := HFX.out V hV; clear hV; go_simp; rfl); (intro K' hK'; go_simp; refine hK' _ ?_; clear hK' K')) | (refine LeftL.take (v := undef) 7 rfl (by kernel_rfl) (fun _ _ d _ _ h => by cases d <;> exact h) (.inr ⟨rfl, rfl⟩) HS.out ?_; (intro K' hK'; go_simp; refine hK' _ ?_; clear hK' K'))
        first | (refine LeftL.run (v := ?_) 8 rfl (by kernel_rfl) rfl (fun _ _ d _ _ h => by cases d <;> exact h) ?_ HS.out ?_; rotate_left; (· intro V hV; obtain ⟨q0, q1, q2, q3⟩ := HFX.out V hV; clear hV; go_simp; rfl); (intro K' hK'; go_simp; refine hK' _ ?_; clear hK' K')) | (refine LeftL.runG (v := ?_) 8 rfl (by kernel_rfl) rfl (fun _ _ d _ _ h => by cases d <;> exact h) ?_ HS.out ?_; rotate_left; (· intro V hV; obtain ⟨q0, q1, q2, q3⟩ := HFX.out V hV; clear hV; go_simp; rfl); (intro K' hK'; go_simp; refine hK' _ ?_; clear hK' K')) | (refine LeftL.take (v := undef) 8 rfl (by kernel_rfl) (fun _ _ d _ _ h => by cases d <;> exact h) (.inr ⟨rfl, rfl⟩) HS.out ?_; (intro K' hK'; go_simp; refine hK' _ ?_; clear hK' K'))
        first | (refine LeftL.run (v := ?_) 9 rfl (by kernel_rfl) rfl (fun _ _ d _ _ h => by cases d <;> exact h) ?_ HS.out ?_; rotate_left; (· intro V hV; obtain ⟨q0, q1, q2, q3⟩ := HFX.out V hV; clear hV; go_simp; rfl); (intro K' hK'; go_simp; refine hK' _ ?_; clear hK' K')) | (refine LeftL.runG (v := ?_) 9 rfl (by kernel_rfl) rfl (fun _ _ d _ _ h => by cases d <;> exact h) ?_ HS.out ?_; rotate_left; (· intro V hV; obtain ⟨q0, q1, q2, q3⟩ := HFX.out V hV; clear hV; go_simp; rfl); (intro K' hK'; go_simp; refine hK' _ ?_; clear hK' K')) | (refine LeftL.take (v := undef) 9 rfl (by kernel_rfl) (fun _ _ d _ _ h => by cases d <;> exact h) (.inr ⟨rfl, rfl⟩) HS.out ?_; (intro K' hK'; go_simp; refine hK' _ ?_; clear hK' K'))
        first | (refine LeftL.run (v := ?_) 10 rfl (by kernel_rfl) rfl (fun _ _ d _ _ h => by cases d <;> exact h) ?_ HS.out ?_; rotate_left; (· intro V hV; obtain ⟨q0, q1, q2, q3⟩ := HFX.out V hV; clear hV; go_simp; rfl); (intro K' hK'; go_simp; refine hK' _ ?_; clear hK' K')) | (refine LeftL.runG (v := ?_) 10 rfl (by kernel_rfl) rfl (fun _ _ d _ _ h => by cases d <;> exact h) ?_ HS.out ?_; rotate_left; (· intro V hV; obtain ⟨q0, q1, q2, q3⟩ := HFX.out V hV; clear hV; go_simp; rfl); (intro K' hK'; go_simp; refine hK' _ ?_; clear hK' K')) | (refine LeftL.take (v := undef) 10 rfl (by kernel_rfl) (fun _ _ d _ _ h => by cases d <;> exact h) (.inr ⟨rfl, rfl⟩) HS.out ?_; (intro K' hK'; go_simp; refine hK' _ ?_; clear hK' K'))
        first | (refine LeftL.run (v := ?_) 11 rfl (by kernel_rfl) rfl (fun _ _ d _ _ h => by cases d <;> exact h) ?_ HS.out ?_; rotate_left; (· intro V hV; obtain ⟨q0, q1, q2, q3⟩ := HFX.out V hV; clear hV; go_simp; rfl); (intro K' hK'; go_simp; refine hK' _ ?_; clear hK' K')) | (refine LeftL.runG (v := ?_) 11 rfl (by kernel_rfl) rfl (fun _ _ d _ _ h => by cases d <;> exact h) ?_ HS.out ?_; rotate_left; (· intro V hV; obtain ⟨q0, q1, q2, q3⟩ := HFX.out V hV; clear hV; go_simp; rfl); (intro K' hK'; go_simp; refine hK' _ ?_; clear hK' K')) | (refine LeftL.take (v := undef) 11 rfl (by kernel_rfl) (fun _ _ d _ _ h => by cases d <;> exact h) (.inr ⟨rfl, rfl⟩) HS.out ?_; (intro K' hK'; go_simp; refine hK' _ ?_; clear hK' K'))
        refine LeftL.done (by kernel_rfl) ?_
        go_wp2_with fail
        go_ret
        exact ⟨by rw [HBE.out, HLX.out, HSTEP.out, if_neg HXY.out]; rfl, HF.out.call (HFR.out.call (HS0.out.call HS.out HS0.out.size (by simp)) HFR.out.size (by simp)) HF.out.size (by simp)⟩
    · have hjl' : ¬ (j : Int) < (nb : Int) := by omega
      obtain rfl : j = nb := by omega
      have HFR := Lib.hid hfr
      have HLX := Lib.hid hlx
      clear hlx hfr
      go_wp2_with fail
      go_ret
      exact ⟨by rw [HBE.out, HLX.out, Nat.sub_self]; rfl, HF.out.call HFR.out HF.out.size (by simp)⟩
end Go.Proofs.YtghkfopcjdkieaaDoor
