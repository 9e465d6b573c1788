/-
  Texts J12, J13 of this claim, one behind the other.
-/
import Derived.Test.YthgmdilfmeefiaaB5
namespace Go.Proofs.Ythgmdilfmeefiaa
set_option linter.all false
set_option linter.unusedSimpArgs false
set_option linter.unusedVariables false
open Go.RowKit
attribute [local go_sem ↓ high] run_min_ run_max_ run_min2 run_max2

set_option maxRecDepth 100000 in
set_option maxHeartbeats 8000000 in
theorem refBox_any (ad : Option Addr) (b off n cap : Nat) (L : List Spt) (hn : n = L.length) (h1 : 1 ≤ n) (w : World) (hr : RwP w ad b off n L) :
    Calls Try.prog 91 #[.slice ad n cap] w fun e w' => e = .returned (bxV (boxL L)) ∧ Frm w.heap.size [] w w' := by
  have hf0 := Try.func91
  have had := hr.ad (by omega)
  have hlen := hr.len
  subst had
  obtain ⟨⟨x0, y0⟩, hx0⟩ : ∃ p, p = spt L 0 := ⟨_, rfl⟩
  have hla : ∀ V, Frm w.heap.size [] w V → (loadVar 71 ⟨b, off, none⟩).run Try.prog V = .ok (.agg #[.int .i64 x0, .int .i64 y0]) V := fun V hV => by
    have := (hr.frm hV (Nat.le_refl _)).load (P := Try.prog) Try.underlying71 rfl (i := 0) (by omega) (info71s _)
    rw [Nat.zero_mul, Nat.add_zero] at this
    rw [← hx0] at this; exact this
  have hfx : ∀ V, Frm w.heap.size [] w V → True ∧ True := fun _ _ => ⟨trivial, trivial⟩
  have hn1 : 0 < n := h1
  have HN := Lib.hid hn
  have HR := Lib.hid hr
  have HLA := Lib.hid hla
  have HX0 := Lib.hid hx0
  have HFX := Lib.hid hfx
  clear hfx hx0 hla hr hn
  go_enter Try.func91, Try.ntmps91
  go_upto_region 1 with fail
  refine namedC ?_; intro W hW
  have k2 : Blk W w.heap.size 71 [.int .i64 0, .int .i64 0] := by rw [hW]; refine Blk.alloc' ?_; exact Blk.new w 71 [.int .i64 0, .int .i64 0]
  have k3 : Blk W (w.heap.size + 1) 71 [.int .i64 0, .int .i64 0] := by rw [hW]; exact Blk.new' _ 71 [.int .i64 0, .int .i64 0] (by simp)
  have hS : Frm w.heap.size [] w W.drew := by rw [hW]; refine Frm.drew ?_; repeat (first | with_reducible exact Frm.refl _ _ _ | with_reducible refine Frm.drewN ?_ | with_reducible refine Frm.drew ?_ | ((with_reducible refine Frm.setCell' ?_ ?_); · first | (left; simp; done) | (right; simp; done) | (right; simp; omega)) | ((with_reducible refine Frm.alloc' ?_ ?_); · first | exact Nat.le_refl _ | (simp; done) | (simp; omega)))
  clear hW hf0
  have k2 := k2.drew
  have k3 := k3.drew
  go_cut [4, 5] from 7 to 13 (fun s4 s5 w' => ∃ p4 p5, s4 = .pointer (some ⟨p4, 0, none⟩) ∧ s5 = .pointer (some ⟨p5, 0, none⟩) ∧ w.heap.size + 1 < p4 ∧ w.heap.size + 1 < p5 ∧ p4 ≠ p5 ∧ Frm w.heap.size [] w w' ∧ Blk w' w.heap.size 71 [.int .i64 0, .int .i64 0] ∧ Blk w' (w.heap.size + 1) 71 [.int .i64 0, .int .i64 0] ∧ Blk w' p4 71 (spC (x0, y0)) ∧ Blk w' p5 71 (spC (x0, y0)))
  case first =>
    refine wp_region_leftL (fun V => Frm w.heap.size [] w V) 1000 (by kernel_rfl) ?_
    obtain ⟨W1, hW1⟩ : ∃ V, V = W.drew := ⟨_, rfl⟩
    rw [← hW1] at k2 k3 hS ⊢
    clear hW1
    have HS := Lib.hid hS
    have K2 := Lib.hid k2
    have K3 := Lib.hid k3
    clear k3 k2 hS
    first | (refine LeftL.tkG (v := ?_) 0 rfl HS.out ?_ ?_; rotate_left; · intro V hV; obtain ⟨z1, z2⟩ := HFX.out V hV; clear hV; go_simp; rfl) | refine LeftL.tkN 0 rfl HS.out ?_
    (intro K h; go_simp; refine h _ ?_; clear h K)
    first | (refine LeftL.tkG (v := ?_) 1 rfl HS.out ?_ ?_; rotate_left; · intro V hV; obtain ⟨z1, z2⟩ := HFX.out V hV; clear hV; go_simp; rfl) | refine LeftL.tkN 1 rfl HS.out ?_
    (intro K h; go_simp; refine h _ ?_; clear h K)
    refine LeftL.take 2 rfl (by kernel_rfl) (fun _ _ d _ _ h => by cases d <;> exact h) (yields_loadE (ty := 71) rfl rfl rfl (HLA.out)) HS.out ?_; (intro K' hK'; go_simp; refine hK' _ ?_; clear hK' K')
    first | (refine LeftL.tkG (v := ?_) 3 rfl HS.out ?_ ?_; rotate_left; · intro V hV; obtain ⟨z1, z2⟩ := HFX.out V hV; clear hV; go_simp; rfl) | refine LeftL.tkN 3 rfl HS.out ?_
    (intro K h; go_simp; refine h _ ?_; clear h K)
    first | (refine LeftL.tkG (v := ?_) 4 rfl HS.out ?_ ?_; rotate_left; · intro V hV; obtain ⟨z1, z2⟩ := HFX.out V hV; clear hV; go_simp; rfl) | refine LeftL.tkN 4 rfl HS.out ?_
    (intro K h; go_simp; refine h _ ?_; clear h K)
    refine LeftL.take 5 rfl (by kernel_rfl) (fun _ _ d _ _ h => by cases d <;> exact h) (yields_loadE (ty := 71) rfl rfl rfl (HLA.out)) HS.out ?_; (intro K' hK'; go_simp; refine hK' _ ?_; clear hK' K')
    refine LeftL.two 6 7 rfl rfl (by kernel_rfl) ?_ ?_
    · go_wp2_with fail
      first | refine ⟨fun _ => HS.out.alloc HS.out.size _, ?_⟩ | refine ⟨HS.out.alloc HS.out.size _, ?_⟩
      refine namedLL ?_; intro U1 hU
      have kF : Blk U1 W1.heap.size 71 [.int .i64 0, .int .i64 0] := by rw [hU]; exact Blk.new' _ 71 [.int .i64 0, .int .i64 0] rfl
      have k2 : Blk U1 w.heap.size 71 [.int .i64 0, .int .i64 0] := by rw [hU]; exact K2.out.alloc _
      have k3 : Blk U1 (w.heap.size + 1) 71 [.int .i64 0, .int .i64 0] := by rw [hU]; exact K3.out.alloc _
      have hS1 : Frm w.heap.size [] w U1 := by rw [hU]; exact HS.out.alloc HS.out.size _
      have lF : w.heap.size + 1 < W1.heap.size := K3.out.lt
      obtain ⟨pF, hp⟩ : ∃ p, p = W1.heap.size := ⟨_, rfl⟩
      rw [← hp] at kF lF ⊢
      clear hU HS K2 K3 hp
      have HS := Lib.hid hS1
      have K2 := Lib.hid k2
      have K3 := Lib.hid k3
      have KF := Lib.hid kF
      have LF := Lib.hid lF
      clear lF kF k3 k2 hS1
      refine LeftL.one 7 rfl (by kernel_rfl) ?_
      go_wp2_with fail
      first | refine ⟨fun _ => HS.out.alloc HS.out.size _, ?_⟩ | refine ⟨HS.out.alloc HS.out.size _, ?_⟩
      refine namedLL ?_; intro U2 hU
      have kS : Blk U2 U1.heap.size 71 [.int .i64 0, .int .i64 0] := by rw [hU]; exact Blk.new' _ 71 [.int .i64 0, .int .i64 0] rfl
      have k2 : Blk U2 w.heap.size 71 [.int .i64 0, .int .i64 0] := by rw [hU]; exact K2.out.alloc _
      have k3 : Blk U2 (w.heap.size + 1) 71 [.int .i64 0, .int .i64 0] := by rw [hU]; exact K3.out.alloc _
      have kF : Blk U2 pF 71 [.int .i64 0, .int .i64 0] := by rw [hU]; exact KF.out.alloc _
      have hS1 : Frm w.heap.size [] w U2 := by rw [hU]; exact HS.out.alloc HS.out.size _
      have lS : w.heap.size + 1 < U1.heap.size := K3.out.lt
      have nFS : pF ≠ U1.heap.size := by have := KF.out.lt; omega
      obtain ⟨pS, hp⟩ : ∃ p, p = U1.heap.size := ⟨_, rfl⟩
      rw [← hp] at kS lS nFS ⊢
      clear hU HS K2 K3 KF hp
      have HS := Lib.hid hS1
      have K2 := Lib.hid k2
      have K3 := Lib.hid k3
      have KF := Lib.hid kF
      have KS := Lib.hid kS
      have LS := Lib.hid lS
      have NFS := Lib.hid nFS
      clear nFS lS kS kF k3 k2 hS1
      refine LeftL.one 8 rfl (by kernel_rfl) ?_
      refine wpList_storeB (P := Try.prog) (ty := 71) (cs := spC (x0, y0)) rfl rfl KF.out rfl rfl rfl info71 (spC_one _) ?_
      refine wpList_nil ?_
      have ka := KF.out.row (spC (x0, y0))
      have kb := KS.out.row_other (g := pF) (spC (x0, y0)).toArray NFS.out
      have k2 := K2.out.row_other (g := pF) (spC (x0, y0)).toArray (by have := LF.out; omega)
      have k3 := K3.out.row_other (g := pF) (spC (x0, y0)).toArray (by have := LF.out; omega)
      have hS1 := HS.out.setRow (g := pF) (.inr (by have := LF.out; omega)) (spC (x0, y0)).toArray
      generalize World.setRow _ pF (spC (x0, y0)).toArray = V0 at ka kb k2 k3 hS1 ⊢
      clear K2 K3 HS KF KS
      have HS := Lib.hid hS1
      have K2 := Lib.hid k2
      have K3 := Lib.hid k3
      have KF := Lib.hid ka
      have KS := Lib.hid kb
      clear kb ka k3 k2 hS1
      refine ⟨fun _ => HS.out, ?_⟩
      refine LeftL.one 9 rfl (by kernel_rfl) ?_
      refine wpList_storeB (P := Try.prog) (ty := 71) (cs := spC (x0, y0)) rfl rfl KS.out rfl rfl rfl info71 (spC_one _) ?_
      refine wpList_nil ?_
      have ka := KS.out.row (spC (x0, y0))
      have kb := KF.out.row_other (g := pS) (spC (x0, y0)).toArray NFS.out.symm
      have k2 := K2.out.row_other (g := pS) (spC (x0, y0)).toArray (by have := LS.out; omega)
      have k3 := K3.out.row_other (g := pS) (spC (x0, y0)).toArray (by have := LS.out; omega)
      have hS1 := HS.out.setRow (g := pS) (.inr (by have := LS.out; omega)) (spC (x0, y0)).toArray
      generalize World.setRow _ pS (spC (x0, y0)).toArray = V1 at ka kb k2 k3 hS1 ⊢
      clear K2 K3 HS KF KS
      have HS := Lib.hid hS1
      have K2 := Lib.hid k2
      have K3 := Lib.hid k3
      have KS := Lib.hid ka
      have KF := Lib.hid kb
      clear kb ka k3 k2 hS1
      refine ⟨fun _ => HS.out, ?_⟩
      refine LeftL.done (by kernel_rfl) ?_
      go_wp2_with fail
      go_meet
      case rel => exact ⟨_, _, rfl, rfl, LF.out, LS.out, NFS.out, HS.out, K2.out, K3.out, KF.out, KS.out⟩
    · go_wp2_with fail
      first | refine ⟨fun _ => HS.out.alloc HS.out.size _, ?_⟩ | refine ⟨HS.out.alloc HS.out.size _, ?_⟩
      refine namedLL ?_; intro U1 hU
      have kF : Blk U1 W1.heap.size 71 [.int .i64 0, .int .i64 0] := by rw [hU]; exact Blk.new' _ 71 [.int .i64 0, .int .i64 0] rfl
      have k2 : Blk U1 w.heap.size 71 [.int .i64 0, .int .i64 0] := by rw [hU]; exact K2.out.alloc _
      have k3 : Blk U1 (w.heap.size + 1) 71 [.int .i64 0, .int .i64 0] := by rw [hU]; exact K3.out.alloc _
      have hS1 : Frm w.heap.size [] w U1 := by rw [hU]; exact HS.out.alloc HS.out.size _
      have lF : w.heap.size + 1 < W1.heap.size := K3.out.lt
      obtain ⟨pF, hp⟩ : ∃ p, p = W1.heap.size := ⟨_, rfl⟩
      rw [← hp] at kF lF ⊢
      clear hU HS K2 K3 hp
      have HS := Lib.hid hS1
      have K2 := Lib.hid k2
      have K3 := Lib.hid k3
      have KF := Lib.hid kF
      have LF := Lib.hid lF
      clear lF kF k3 k2 hS1
      refine LeftL.one 6 rfl (by kernel_rfl) ?_
      go_wp2_with fail
      first | refine ⟨fun _ => HS.out.alloc HS.out.size _, ?_⟩ | refine ⟨HS.out.alloc HS.out.size _, ?_⟩
      refine namedLL ?_; intro U2 hU
      have kS : Blk U2 U1.heap.size 71 [.int .i64 0, .int .i64 0] := by rw [hU]; exact Blk.new' _ 71 [.int .i64 0, .int .i64 0] rfl
      have k2 : Blk U2 w.heap.size 71 [.int .i64 0, .int .i64 0] := by rw [hU]; exact K2.out.alloc _
      have k3 : Blk U2 (w.heap.size + 1) 71 [.int .i64 0, .int .i64 0] := by rw [hU]; exact K3.out.alloc _
      have kF : Blk U2 pF 71 [.int .i64 0, .int .i64 0] := by rw [hU]; exact KF.out.alloc _
      have hS1 : Frm w.heap.size [] w U2 := by rw [hU]; exact HS.out.alloc HS.out.size _
      have lS : w.heap.size + 1 < U1.heap.size := K3.out.lt
      have nFS : pF ≠ U1.heap.size := by have := KF.out.lt; omega
      obtain ⟨pS, hp⟩ : ∃ p, p = U1.heap.size := ⟨_, rfl⟩
      rw [← hp] at kS lS nFS ⊢
      clear hU HS K2 K3 KF hp
      have HS := Lib.hid hS1
      have K2 := Lib.hid k2
      have K3 := Lib.hid k3
      have KF := Lib.hid kF
      have KS := Lib.hid kS
      have LS := Lib.hid lS
      have NFS := Lib.hid nFS
      clear nFS lS kS kF k3 k2 hS1
      refine LeftL.one 8 rfl (by kernel_rfl) ?_
      refine wpList_storeB (P := Try.prog) (ty := 71) (cs := spC (x0, y0)) rfl rfl KS.out rfl rfl rfl info71 (spC_one _) ?_
      refine wpList_nil ?_
      have ka := KS.out.row (spC (x0, y0))
      have kb := KF.out.row_other (g := pS) (spC (x0, y0)).toArray NFS.out.symm
      have k2 := K2.out.row_other (g := pS) (spC (x0, y0)).toArray (by have := LS.out; omega)
      have k3 := K3.out.row_other (g := pS) (spC (x0, y0)).toArray (by have := LS.out; omega)
      have hS1 := HS.out.setRow (g := pS) (.inr (by have := LS.out; omega)) (spC (x0, y0)).toArray
      generalize World.setRow _ pS (spC (x0, y0)).toArray = V0 at ka kb k2 k3 hS1 ⊢
      clear K2 K3 HS KF KS
      have HS := Lib.hid hS1
      have K2 := Lib.hid k2
      have K3 := Lib.hid k3
      have KS := Lib.hid ka
      have KF := Lib.hid kb
      clear kb ka k3 k2 hS1
      refine ⟨fun _ => HS.out, ?_⟩
      refine LeftL.one 9 rfl (by kernel_rfl) ?_
      refine wpList_storeB (P := Try.prog) (ty := 71) (cs := spC (x0, y0)) rfl rfl KF.out rfl rfl rfl info71 (spC_one _) ?_
      refine wpList_nil ?_
      have ka := KF.out.row (spC (x0, y0))
      have kb := KS.out.row_other (g := pF) (spC (x0, y0)).toArray NFS.out
      have k2 := K2.out.row_other (g := pF) (spC (x0, y0)).toArray (by have := LF.out; omega)
      have k3 := K3.out.row_other (g := pF) (spC (x0, y0)).toArray (by have := LF.out; omega)
      have hS1 := HS.out.setRow (g := pF) (.inr (by have := LF.out; omega)) (spC (x0, y0)).toArray
      generalize World.setRow _ pF (spC (x0, y0)).toArray = V1 at ka kb k2 k3 hS1 ⊢
      clear K2 K3 HS KF KS
      have HS := Lib.hid hS1
      have K2 := Lib.hid k2
      have K3 := Lib.hid k3
      have KF := Lib.hid ka
      have KS := Lib.hid kb
      clear kb ka k3 k2 hS1
      refine ⟨fun _ => HS.out, ?_⟩
      refine LeftL.done (by kernel_rfl) ?_
      go_wp2_with fail
      go_meet
      case rel => exact ⟨_, _, rfl, rfl, LS.out, LF.out, NFS.out.symm, HS.out, K2.out, K3.out, KS.out, KF.out⟩
  obtain ⟨p4, p5, rfl, rfl, l4, l5, n45, hf, k2, k3, k4, k5⟩ := hcut
  have hb0 : boxK L 0 = ⟨x0, y0, x0, y0⟩ := by simp only [boxK]; rw [← HX0.out]
  clear hS
  have HB0 := Lib.hid hb0
  have HF := Lib.hid hf
  have K2 := Lib.hid k2
  have K3 := Lib.hid k3
  have K4 := Lib.hid k4
  have K5 := Lib.hid k5
  have L4 := Lib.hid l4
  have L5 := Lib.hid l5
  have N45 := Lib.hid n45
  clear n45 l5 l4 k5 k4 k3 k2 hf hb0
  go_wp2_with fail
  go_loopw [6] (fun s6 wr => ∃ i : Nat, s6 = .int .i64 i ∧ i ≤ n ∧ Frm w.heap.size [] w wr ∧ Blk wr w.heap.size 71 [.int .i64 0, .int .i64 0] ∧ Blk wr (w.heap.size + 1) 71 [.int .i64 0, .int .i64 0] ∧ Blk wr p4 71 (spC ((boxK L i).lx, (boxK L i).ly)) ∧ Blk wr p5 71 (spC ((boxK L i).hx, (boxK L i).hy))) (fun s6 _ => n - (intOf s6).toNat)
  case atStart => exact ⟨0, rfl, Nat.zero_le _, HF.out, K2.out, K3.out, by rw [HB0.out]; exact K4.out, by rw [HB0.out]; exact K5.out⟩
  case round =>
    obtain ⟨i, rfl, hi, hf, k2, k3, k4, k5⟩ := hrel
    by_cases hin : i < n
    rotate_left
    · have hin' : ¬ (i : Int) < (n : Int) := by omega
      obtain rfl : i = n := by omega
      obtain ⟨⟨lx, ly, hx, hy⟩, hbx⟩ : ∃ x, x = boxK L i := ⟨_, rfl⟩
      rw [← hbx] at k4 k5
      dsimp only at k4 k5
      have hv : boxL L = ⟨lx, ly, hx, hy⟩ := by unfold boxL; rw [← HN.out, ← hbx]
      clear hbx
      have HF2 := Lib.hid hf
      have K22 := Lib.hid k2
      have K32 := Lib.hid k3
      have K42 := Lib.hid k4
      have K52 := Lib.hid k5
      have HV := Lib.hid hv
      clear hv k5 k4 k3 k2 hf
      go_upto_region 7 with fail
      refine wp_region_leftL (fun V => Frm w.heap.size [] w V ∧ Blk V p4 71 (spC (lx, ly)) ∧ Blk V p5 71 (spC (hx, hy))) 1000 (by kernel_rfl) ?_
      have hS : Frm w.heap.size [] w wr.drew ∧ Blk wr.drew p4 71 (spC (lx, ly)) ∧ Blk wr.drew p5 71 (spC (hx, hy)) := ⟨HF2.out.drew, K42.out.drew, K52.out.drew⟩
      have k2 := K22.out.drew
      have k3 := K32.out.drew
      generalize World.drew wr = W4 at hS k2 k3 ⊢
      have HS := Lib.hid hS
      have KK2 := Lib.hid k2
      have KK3 := Lib.hid k3
      clear k3 k2 hS
      refine LeftL.take 0 rfl (by kernel_rfl) (fun _ _ d _ _ h => by cases d <;> exact h) (yields_loadE (ty := 71) rfl rfl rfl (fun V hV => load_sp hV.2.1)) HS.out ?_; (intro K' hK'; go_simp; refine hK' _ ?_; clear hK' K')
      refine LeftL.take 1 rfl (by kernel_rfl) (fun _ _ d _ _ h => by cases d <;> exact h) (yields_loadE (ty := 71) rfl rfl rfl (fun V hV => load_sp hV.2.2)) HS.out ?_; (intro K' hK'; go_simp; refine hK' _ ?_; clear hK' K')
      refine LeftL.one 2 rfl (by kernel_rfl) ?_
      refine wpList_storeB (P := Try.prog) (ty := 71) (cs := spC (lx, ly)) rfl rfl KK2.out rfl rfl rfl info71 (spC_one _) ?_
      refine wpList_nil ?_
      have hS := (⟨HS.out.1.setRow (g := w.heap.size) (.inr (Nat.le_refl _)) (spC (lx, ly)).toArray, HS.out.2.1.row_other (g := w.heap.size) (spC (lx, ly)).toArray (by have := L4.out; omega), HS.out.2.2.row_other (g := w.heap.size) (spC (lx, ly)).toArray (by have := L5.out; omega)⟩ : Frm w.heap.size [] w _ ∧ Blk _ p4 71 (spC (lx, ly)) ∧ Blk _ p5 71 (spC (hx, hy)))
      have k2 := KK2.out.row (spC (lx, ly))
      have k3 := KK3.out.row_other (g := w.heap.size) (spC (lx, ly)).toArray (by omega)
      generalize World.setRow _ w.heap.size (spC (lx, ly)).toArray = W5 at hS k2 k3 ⊢
      clear HS KK2 KK3
      have HS := Lib.hid hS
      have KK2 := Lib.hid k2
      have KK3 := Lib.hid k3
      clear k3 k2 hS
      refine ⟨fun _ => HS.out, ?_⟩
      refine LeftL.one 3 rfl (by kernel_rfl) ?_
      refine wpList_storeB (P := Try.prog) (ty := 71) (cs := spC (hx, hy)) rfl rfl KK3.out rfl rfl rfl info71 (spC_one _) ?_
      refine wpList_nil ?_
      have hS := (⟨HS.out.1.setRow (g := w.heap.size + 1) (.inr (Nat.le_succ _)) (spC (hx, hy)).toArray, HS.out.2.1.row_other (g := w.heap.size + 1) (spC (hx, hy)).toArray (by have := L4.out; omega), HS.out.2.2.row_other (g := w.heap.size + 1) (spC (hx, hy)).toArray (by have := L5.out; omega)⟩ : Frm w.heap.size [] w _ ∧ Blk _ p4 71 (spC (lx, ly)) ∧ Blk _ p5 71 (spC (hx, hy)))
      have k3 := KK3.out.row (spC (hx, hy))
      have k2 := KK2.out.row_other (g := w.heap.size + 1) (spC (hx, hy)).toArray (by omega)
      generalize World.setRow _ (w.heap.size + 1) (spC (hx, hy)).toArray = W6 at hS k2 k3 ⊢
      clear HS KK2 KK3
      have HS := Lib.hid hS
      have KK2 := Lib.hid k2
      have KK3 := Lib.hid k3
      clear k3 k2 hS
      refine ⟨fun _ => HS.out, ?_⟩
      refine LeftL.done (by kernel_rfl) ?_
      go_wp2_with fail
      refine bodyPost_ret (results_cc Try.results91 KK2.out rfl Try.underlying71 rfl info71 KK3.out rfl Try.underlying71 rfl info71) rfl ⟨?_, HS.out.1⟩
      rw [HV.out]
      rfl
    have hin' : (i : Int) < (n : Int) := by omega
    obtain ⟨y4, y5⟩ := wrapUp hin hlen
    have hms := meas_up hin
    obtain ⟨⟨x, y⟩, hxy⟩ : ∃ p, p = spt L i := ⟨_, rfl⟩
    obtain ⟨⟨lx, ly, hx, hy⟩, hbx⟩ : ∃ x, x = boxK L i := ⟨_, rfl⟩
    have hnx : boxK L (i + 1) = ⟨min lx x, min ly y, max hx x, max hy y⟩ := by simp only [boxK]; rw [← hbx, ← hxy]
    rw [← hbx] at k4 k5
    dsimp only at k4 k5
    have hcx : ∀ V, Frm w.heap.size [] w V → V.cell? ⟨b, off + i * 2, none⟩ = some (.int .i64 x) ∧ V.cell? ⟨b, off + i * 2 + 1, none⟩ = some (.int .i64 y) := fun V hV => by
      have hq := HR.out.frm hV (Nat.le_refl _)
      have q0 := hq.at_ i hin 0 (.int .i64 x) (by rw [← hxy]; rfl)
      have q1 := hq.at_ i hin 1 (.int .i64 y) (by rw [← hxy]; rfl)
      exact ⟨q0, q1⟩
    clear hbx hxy
    obtain ⟨W4, hW4⟩ : ∃ V, V = wr := ⟨_, rfl⟩
    rw [← hW4] at hf k2 k3 k4 k5 ⊢
    clear hW4
    clear HFX
    have HF2 := Lib.hid hf
    have K22 := Lib.hid k2
    have K32 := Lib.hid k3
    have K42 := Lib.hid k4
    have K52 := Lib.hid k5
    have HMS := Lib.hid hms
    have HCX := Lib.hid hcx
    have HNX := Lib.hid hnx
    have HIN := Lib.hid hin
    clear hin hnx hcx hms k5 k4 k3 k2 hf
    go_upto_region 5 with fail
    refine wp_region_leftL (fun V => Frm w.heap.size [] w V ∧ Blk V p4 71 (spC (lx, ly))) 17 (by kernel_rfl) ?_
    have hS : Frm w.heap.size [] w W4.drew ∧ Blk W4.drew p4 71 (spC (lx, ly)) := ⟨HF2.out.drew, K42.out.drew⟩
    have k2 := K22.out.drew
    have k3 := K32.out.drew
    have kq := K52.out.drew
    generalize World.drew W4 = U0 at hS k2 k3 kq ⊢
    clear HF2 K22 K32 K42 K52
    have hfx : ∀ V, Frm w.heap.size [] w V ∧ Blk V p4 71 (spC (lx, ly)) → V.cell? ⟨p4, 0, none⟩ = some (.int .i64 (lx)) ∧ V.cell? ⟨p4, 1, none⟩ = some (.int .i64 (ly)) ∧ V.cell? ⟨b, off + i * 2, none⟩ = some (.int .i64 x) ∧ V.cell? ⟨b, off + i * 2 + 1, none⟩ = some (.int .i64 y) := fun V hV => ⟨hV.2.cell 0, hV.2.cell 1, (HCX.out V hV.1).1, (HCX.out V hV.1).2⟩
    have HS := Lib.hid hS
    have K22 := Lib.hid k2
    have K32 := Lib.hid k3
    have KQ := Lib.hid kq
    have HFX := Lib.hid hfx
    clear hfx kq k3 k2 hS
    first | (refine LeftL.tkG (v := ?_) 0 rfl HS.out ?_ ?_; rotate_left; · intro V hV; obtain ⟨z1, z2, z3, z4⟩ := HFX.out V hV; clear hV; go_simp; rfl) | refine LeftL.tkN 0 rfl HS.out ?_
    (intro K h; go_simp; refine h _ ?_; clear h K)
    first | (refine LeftL.tkG (v := ?_) 1 rfl HS.out ?_ ?_; rotate_left; · intro V hV; obtain ⟨z1, z2, z3, z4⟩ := HFX.out V hV; clear hV; go_simp; rfl) | refine LeftL.tkN 1 rfl HS.out ?_
    (intro K h; go_simp; refine h _ ?_; clear h K)
    first | (refine LeftL.tkG (v := ?_) 2 rfl HS.out ?_ ?_; rotate_left; · intro V hV; obtain ⟨z1, z2, z3, z4⟩ := HFX.out V hV; clear hV; go_simp; rfl) | refine LeftL.tkN 2 rfl HS.out ?_
    (intro K h; go_simp; refine h _ ?_; clear h K)
    first | (refine LeftL.tkG (v := ?_) 3 rfl HS.out ?_ ?_; rotate_left; · intro V hV; obtain ⟨z1, z2, z3, z4⟩ := HFX.out V hV; clear hV; go_simp; rfl) | refine LeftL.tkN 3 rfl HS.out ?_
    (intro K h; go_simp; refine h _ ?_; clear h K)
    first | (refine LeftL.tkG (v := ?_) 4 rfl HS.out ?_ ?_; rotate_left; · intro V hV; obtain ⟨z1, z2, z3, z4⟩ := HFX.out V hV; clear hV; go_simp; rfl) | refine LeftL.tkN 4 rfl HS.out ?_
    (intro K h; go_simp; refine h _ ?_; clear h K)
    first | (refine LeftL.tkG (v := ?_) 5 rfl HS.out ?_ ?_; rotate_left; · intro V hV; obtain ⟨z1, z2, z3, z4⟩ := HFX.out V hV; clear hV; go_simp; rfl) | refine LeftL.tkN 5 rfl HS.out ?_
    (intro K h; go_simp; refine h _ ?_; clear h K)
    first | (refine LeftL.tkG (v := ?_) 6 rfl HS.out ?_ ?_; rotate_left; · intro V hV; obtain ⟨z1, z2, z3, z4⟩ := HFX.out V hV; clear hV; go_simp; rfl) | refine LeftL.tkN 6 rfl HS.out ?_
    (intro K h; go_simp; refine h _ ?_; clear h K)
    first | (refine LeftL.tkG (v := ?_) 7 rfl HS.out ?_ ?_; rotate_left; · intro V hV; obtain ⟨z1, z2, z3, z4⟩ := HFX.out V hV; clear hV; go_simp; rfl) | refine LeftL.tkN 7 rfl HS.out ?_
    (intro K h; go_simp; refine h _ ?_; clear h K)
    first | (refine LeftL.tkG (v := ?_) 8 rfl HS.out ?_ ?_; rotate_left; · intro V hV; obtain ⟨z1, z2, z3, z4⟩ := HFX.out V hV; clear hV; go_simp; rfl) | refine LeftL.tkN 8 rfl HS.out ?_
    (intro K h; go_simp; refine h _ ?_; clear h K)
    first | (refine LeftL.tkG (v := ?_) 9 rfl HS.out ?_ ?_; rotate_left; · intro V hV; obtain ⟨z1, z2, z3, z4⟩ := HFX.out V hV; clear hV; go_simp; rfl) | refine LeftL.tkN 9 rfl HS.out ?_
    (intro K h; go_simp; refine h _ ?_; clear h K)
    first | (refine LeftL.tkG (v := ?_) 10 rfl HS.out ?_ ?_; rotate_left; · intro V hV; obtain ⟨z1, z2, z3, z4⟩ := HFX.out V hV; clear hV; go_simp; rfl) | refine LeftL.tkN 10 rfl HS.out ?_
    (intro K h; go_simp; refine h _ ?_; clear h K)
    first | (refine LeftL.tkG (v := ?_) 11 rfl HS.out ?_ ?_; rotate_left; · intro V hV; obtain ⟨z1, z2, z3, z4⟩ := HFX.out V hV; clear hV; go_simp; rfl) | refine LeftL.tkN 11 rfl HS.out ?_
    (intro K h; go_simp; refine h _ ?_; clear h K)
    first | (refine LeftL.tkG (v := ?_) 12 rfl HS.out ?_ ?_; rotate_left; · intro V hV; obtain ⟨z1, z2, z3, z4⟩ := HFX.out V hV; clear hV; go_simp; rfl) | refine LeftL.tkN 12 rfl HS.out ?_
    (intro K h; go_simp; refine h _ ?_; clear h K)
    first | (refine LeftL.tkG (v := ?_) 13 rfl HS.out ?_ ?_; rotate_left; · intro V hV; obtain ⟨z1, z2, z3, z4⟩ := HFX.out V hV; clear hV; go_simp; rfl) | refine LeftL.tkN 13 rfl HS.out ?_
    (intro K h; go_simp; refine h _ ?_; clear h K)
    first | (refine LeftL.tkG (v := ?_) 14 rfl HS.out ?_ ?_; rotate_left; · intro V hV; obtain ⟨z1, z2, z3, z4⟩ := HFX.out V hV; clear hV; go_simp; rfl) | refine LeftL.tkN 14 rfl HS.out ?_
    (intro K h; go_simp; refine h _ ?_; clear h K)
    first | (refine LeftL.tkG (v := ?_) 15 rfl HS.out ?_ ?_; rotate_left; · intro V hV; obtain ⟨z1, z2, z3, z4⟩ := HFX.out V hV; clear hV; go_simp; rfl) | refine LeftL.tkN 15 rfl HS.out ?_
    (intro K h; go_simp; refine h _ ?_; clear h K)
    first | (refine LeftL.tkG (v := ?_) 16 rfl HS.out ?_ ?_; rotate_left; · intro V hV; obtain ⟨z1, z2, z3, z4⟩ := HFX.out V hV; clear hV; go_simp; rfl) | refine LeftL.tkN 16 rfl HS.out ?_
    (intro K h; go_simp; refine h _ ?_; clear h K)
    refine LeftL.one 17 rfl (by kernel_rfl) ?_
    refine wpList_storeB (P := Try.prog) (ty := 71) (cs := spC ((min lx x), (min ly y))) rfl rfl HS.out.2 rfl rfl rfl info71 (spC_one _) ?_
    refine wpList_nil ?_
    have kp := HS.out.2.row (spC ((min lx x), (min ly y)))
    have kq := KQ.out.row_other (g := p4) (spC ((min lx x), (min ly y))).toArray (N45.out)
    have k2 := K22.out.row_other (g := p4) (spC ((min lx x), (min ly y))).toArray (by have := L4.out; omega)
    have k3 := K32.out.row_other (g := p4) (spC ((min lx x), (min ly y))).toArray (by have := L4.out; omega)
    have hf := HS.out.1.setRow (g := p4) (.inr (by have := L4.out; omega)) (spC ((min lx x), (min ly y))).toArray
    generalize World.setRow _ p4 (spC ((min lx x), (min ly y))).toArray = W5 at kp kq k2 k3 hf ⊢
    clear HS K22 K32 KQ HFX
    have HF2 := Lib.hid hf
    have K22 := Lib.hid k2
    have K32 := Lib.hid k3
    have K42 := Lib.hid kp
    have K52 := Lib.hid kq
    clear kq kp k3 k2 hf
    refine ⟨fun h => absurd rfl h, ?_⟩
    refine LeftL.done (by kernel_rfl) ?_
    go_upto_region 6 with fail
    refine wp_region_leftL (fun V => Frm w.heap.size [] w V ∧ Blk V p5 71 (spC (hx, hy))) 17 (by kernel_rfl) ?_
    have hS : Frm w.heap.size [] w W5.drew ∧ Blk W5.drew p5 71 (spC (hx, hy)) := ⟨HF2.out.drew, K52.out.drew⟩
    have k2 := K22.out.drew
    have k3 := K32.out.drew
    have kq := K42.out.drew
    generalize World.drew W5 = U0 at hS k2 k3 kq ⊢
    clear HF2 K22 K32 K42 K52
    have hfx : ∀ V, Frm w.heap.size [] w V ∧ Blk V p5 71 (spC (hx, hy)) → V.cell? ⟨p5, 0, none⟩ = some (.int .i64 (hx)) ∧ V.cell? ⟨p5, 1, none⟩ = some (.int .i64 (hy)) ∧ V.cell? ⟨b, off + i * 2, none⟩ = some (.int .i64 x) ∧ V.cell? ⟨b, off + i * 2 + 1, none⟩ = some (.int .i64 y) := fun V hV => ⟨hV.2.cell 0, hV.2.cell 1, (HCX.out V hV.1).1, (HCX.out V hV.1).2⟩
    have HS := Lib.hid hS
    have K22 := Lib.hid k2
    have K32 := Lib.hid k3
    have KQ := Lib.hid kq
    have HFX := Lib.hid hfx
    clear hfx kq k3 k2 hS
    first | (refine LeftL.tkG (v := ?_) 0 rfl HS.out ?_ ?_; rotate_left; · intro V hV; obtain ⟨z1, z2, z3, z4⟩ := HFX.out V hV; clear hV; go_simp; rfl) | refine LeftL.tkN 0 rfl HS.out ?_
    (intro K h; go_simp; refine h _ ?_; clear h K)
    first | (refine LeftL.tkG (v := ?_) 1 rfl HS.out ?_ ?_; rotate_left; · intro V hV; obtain ⟨z1, z2, z3, z4⟩ := HFX.out V hV; clear hV; go_simp; rfl) | refine LeftL.tkN 1 rfl HS.out ?_
    (intro K h; go_simp; refine h _ ?_; clear h K)
    first | (refine LeftL.tkG (v := ?_) 2 rfl HS.out ?_ ?_; rotate_left; · intro V hV; obtain ⟨z1, z2, z3, z4⟩ := HFX.out V hV; clear hV; go_simp; rfl) | refine LeftL.tkN 2 rfl HS.out ?_
    (intro K h; go_simp; refine h _ ?_; clear h K)
    first | (refine LeftL.tkG (v := ?_) 3 rfl HS.out ?_ ?_; rotate_left; · intro V hV; obtain ⟨z1, z2, z3, z4⟩ := HFX.out V hV; clear hV; go_simp; rfl) | refine LeftL.tkN 3 rfl HS.out ?_
    (intro K h; go_simp; refine h _ ?_; clear h K)
    first | (refine LeftL.tkG (v := ?_) 4 rfl HS.out ?_ ?_; rotate_left; · intro V hV; obtain ⟨z1, z2, z3, z4⟩ := HFX.out V hV; clear hV; go_simp; rfl) | refine LeftL.tkN 4 rfl HS.out ?_
    (intro K h; go_simp; refine h _ ?_; clear h K)
    first | (refine LeftL.tkG (v := ?_) 5 rfl HS.out ?_ ?_; rotate_left; · intro V hV; obtain ⟨z1, z2, z3, z4⟩ := HFX.out V hV; clear hV; go_simp; rfl) | refine LeftL.tkN 5 rfl HS.out ?_
    (intro K h; go_simp; refine h _ ?_; clear h K)
    first | (refine LeftL.tkG (v := ?_) 6 rfl HS.out ?_ ?_; rotate_left; · intro V hV; obtain ⟨z1, z2, z3, z4⟩ := HFX.out V hV; clear hV; go_simp; rfl) | refine LeftL.tkN 6 rfl HS.out ?_
    (intro K h; go_simp; refine h _ ?_; clear h K)
    first | (refine LeftL.tkG (v := ?_) 7 rfl HS.out ?_ ?_; rotate_left; · intro V hV; obtain ⟨z1, z2, z3, z4⟩ := HFX.out V hV; clear hV; go_simp; rfl) | refine LeftL.tkN 7 rfl HS.out ?_
    (intro K h; go_simp; refine h _ ?_; clear h K)
    first | (refine LeftL.tkG (v := ?_) 8 rfl HS.out ?_ ?_; rotate_left; · intro V hV; obtain ⟨z1, z2, z3, z4⟩ := HFX.out V hV; clear hV; go_simp; rfl) | refine LeftL.tkN 8 rfl HS.out ?_
    (intro K h; go_simp; refine h _ ?_; clear h K)
    first | (refine LeftL.tkG (v := ?_) 9 rfl HS.out ?_ ?_; rotate_left; · intro V hV; obtain ⟨z1, z2, z3, z4⟩ := HFX.out V hV; clear hV; go_simp; rfl) | refine LeftL.tkN 9 rfl HS.out ?_
    (intro K h; go_simp; refine h _ ?_; clear h K)
    first | (refine LeftL.tkG (v := ?_) 10 rfl HS.out ?_ ?_; rotate_left; · intro V hV; obtain ⟨z1, z2, z3, z4⟩ := HFX.out V hV; clear hV; go_simp; rfl) | refine LeftL.tkN 10 rfl HS.out ?_
    (intro K h; go_simp; refine h _ ?_; clear h K)
    first | (refine LeftL.tkG (v := ?_) 11 rfl HS.out ?_ ?_; rotate_left; · intro V hV; obtain ⟨z1, z2, z3, z4⟩ := HFX.out V hV; clear hV; go_simp; rfl) | refine LeftL.tkN 11 rfl HS.out ?_
    (intro K h; go_simp; refine h _ ?_; clear h K)
    first | (refine LeftL.tkG (v := ?_) 12 rfl HS.out ?_ ?_; rotate_left; · intro V hV; obtain ⟨z1, z2, z3, z4⟩ := HFX.out V hV; clear hV; go_simp; rfl) | refine LeftL.tkN 12 rfl HS.out ?_
    (intro K h; go_simp; refine h _ ?_; clear h K)
    first | (refine LeftL.tkG (v := ?_) 13 rfl HS.out ?_ ?_; rotate_left; · intro V hV; obtain ⟨z1, z2, z3, z4⟩ := HFX.out V hV; clear hV; go_simp; rfl) | refine LeftL.tkN 13 rfl HS.out ?_
    (intro K h; go_simp; refine h _ ?_; clear h K)
    first | (refine LeftL.tkG (v := ?_) 14 rfl HS.out ?_ ?_; rotate_left; · intro V hV; obtain ⟨z1, z2, z3, z4⟩ := HFX.out V hV; clear hV; go_simp; rfl) | refine LeftL.tkN 14 rfl HS.out ?_
    (intro K h; go_simp; refine h _ ?_; clear h K)
    first | (refine LeftL.tkG (v := ?_) 15 rfl HS.out ?_ ?_; rotate_left; · intro V hV; obtain ⟨z1, z2, z3, z4⟩ := HFX.out V hV; clear hV; go_simp; rfl) | refine LeftL.tkN 15 rfl HS.out ?_
    (intro K h; go_simp; refine h _ ?_; clear h K)
    first | (refine LeftL.tkG (v := ?_) 16 rfl HS.out ?_ ?_; rotate_left; · intro V hV; obtain ⟨z1, z2, z3, z4⟩ := HFX.out V hV; clear hV; go_simp; rfl) | refine LeftL.tkN 16 rfl HS.out ?_
    (intro K h; go_simp; refine h _ ?_; clear h K)
    refine LeftL.one 17 rfl (by kernel_rfl) ?_
    refine wpList_storeB (P := Try.prog) (ty := 71) (cs := spC ((max hx x), (max hy y))) rfl rfl HS.out.2 rfl rfl rfl info71 (spC_one _) ?_
    refine wpList_nil ?_
    have kp := HS.out.2.row (spC ((max hx x), (max hy y)))
    have kq := KQ.out.row_other (g := p5) (spC ((max hx x), (max hy y))).toArray (N45.out.symm)
    have k2 := K22.out.row_other (g := p5) (spC ((max hx x), (max hy y))).toArray (by have := L5.out; omega)
    have k3 := K32.out.row_other (g := p5) (spC ((max hx x), (max hy y))).toArray (by have := L5.out; omega)
    have hf := HS.out.1.setRow (g := p5) (.inr (by have := L5.out; omega)) (spC ((max hx x), (max hy y))).toArray
    generalize World.setRow _ p5 (spC ((max hx x), (max hy y))).toArray = W6 at kp kq k2 k3 hf ⊢
    clear HS K22 K32 KQ HFX
    have HF2 := Lib.hid hf
    have K22 := Lib.hid k2
    have K32 := Lib.hid k3
    have K52 := Lib.hid kp
    have K42 := Lib.hid kq
    clear kq kp k3 k2 hf
    refine ⟨fun h => absurd rfl h, ?_⟩
    refine LeftL.done (by kernel_rfl) ?_
    go_wp2_with fail
    (try simp only [y4, y5])
    exact ⟨⟨i + 1, by simp, HIN.out, HF2.out, K22.out, K32.out, by rw [HNX.out]; exact K42.out, by rw [HNX.out]; exact K52.out⟩, HMS.out⟩
end Go.Proofs.Ythgmdilfmeefiaa

namespace Go.Proofs.Ythgmdilfmeefiaa
set_option linter.all false
set_option linter.unusedSimpArgs false
set_option linter.unusedVariables false
open Go.RowKit
attribute [local go_sem ↓ high] run_min_ run_max_ run_min2 run_max2

theorem boxK_in {L : List Spt} {n : Nat} (h : ∀ i, i < n → SpOK (spt L i)) (h0 : 0 < n) : ∀ k, k ≤ n → SpOK ((boxK L k).lx, (boxK L k).ly) ∧ SpOK ((boxK L k).hx, (boxK L k).hy)
  | 0, _ => ⟨h 0 h0, h 0 h0⟩
  | k + 1, hk => by
    have ih := boxK_in h h0 k (by omega)
    have := h k (by omega)
    unfold SpOK at *
    simp only [boxK] at *
    omega
theorem dist_any (a b : Int) (ha : 0 ≤ a ∧ a ≤ 1073741824) (hb : 0 ≤ b ∧ b ≤ 1073741824) (w : World) : Calls Try.prog 85 #[.int .i64 a, .int .i64 b] w fun e w' => e = .returned (.int .i64 (distZ a b)) ∧ w = w' := by
  have e1 : IntKind.i64.wrap (a - b) = a - b := IntWalk.i64_in _ (by omega)
  have e2 : IntKind.i64.wrap (b - a) = b - a := IntWalk.i64_in _ (by omega)
  have f1 : wrap64 (a - b) = a - b := IntWalk.wrap64_in _ (by omega)
  have f2 : wrap64 (b - a) = b - a := IntWalk.wrap64_in _ (by omega)
  clear ha hb
  go_enter Try.func85, Try.ntmps85
  go_wp2_with fail
  go_ret
  exact ⟨rfl, rfl⟩
theorem apart_any (a b : Int) (ha : 0 ≤ a ∧ a ≤ 1073741824) (hb : 0 ≤ b ∧ b ≤ 1073741824) (w : World) : Calls Try.prog 61 #[.int .i64 a, .int .i64 b] w fun e w' => e = .returned (.int .i64 (distZ a b)) ∧ w = w' := by
  have e1 : IntKind.i64.wrap (a - b) = a - b := IntWalk.i64_in _ (by omega)
  have e2 : IntKind.i64.wrap (b - a) = b - a := IntWalk.i64_in _ (by omega)
  have f1 : wrap64 (a - b) = a - b := IntWalk.wrap64_in _ (by omega)
  have f2 : wrap64 (b - a) = b - a := IntWalk.wrap64_in _ (by omega)
  clear ha hb
  go_enter Try.func61, Try.ntmps61
  go_wp2_with fail
  go_ret
  exact ⟨rfl, rfl⟩
set_option maxRecDepth 100000 in
set_option maxHeartbeats 8000000 in
theorem meet_any (ada : Option Addr) (ba offa na capa : Nat) (A : List Spt) (hna : na = A.length) (ha1 : 1 ≤ na) (oka : ∀ i, i < na → SpOK (spt A i)) (adb : Option Addr) (bb offb nb capb : Nat) (B : List Spt) (hnb : nb = B.length) (hb1 : 1 ≤ nb) (okb : ∀ i, i < nb → SpOK (spt B i))
    (z : Int) (hz : 0 ≤ z ∧ z ≤ 1099511627776) (w : World) (hra : RwP w ada ba offa na A) (hrb : RwP w adb bb offb nb B) :
    Calls Try.prog 87 #[.slice ada na capa, .slice adb nb capb, .int .i64 z] w fun e w' => e = .returned (.bool (meetB A B z)) ∧ Frm w.heap.size [] w w' := by
  have hf0 := Try.func87
  have bA := boxK_in (L := A) oka (by omega) na (Nat.le_refl _)
  have bB := boxK_in (L := B) okb (by omega) nb (Nat.le_refl _)
  obtain ⟨⟨alx, aly, ahx, ahy⟩, hba⟩ : ∃ x, x = boxL A := ⟨_, rfl⟩
  obtain ⟨⟨blx, bly, bhx, bhy⟩, hbb⟩ : ∃ x, x = boxL B := ⟨_, rfl⟩
  have ea : boxK A na = ⟨alx, aly, ahx, ahy⟩ := by rw [hba, hna]; rfl
  have eb : boxK B nb = ⟨blx, bly, bhx, bhy⟩ := by rw [hbb, hnb]; rfl
  rw [ea] at bA
  rw [eb] at bB
  unfold SpOK at bA bB
  dsimp only at bA bB
  have hca : ∀ V, Frm w.heap.size [] w V → Calls Try.prog 100 #[.slice ada na capa] V fun e w' => e = .returned (.tuple #[.agg #[.int .i64 alx, .int .i64 aly], .agg #[.int .i64 ahx, .int .i64 ahy]]) ∧ Frm V.heap.size [] V w' := fun V hV => by
    have := box_any ada ba offa na capa A hna ha1 V (hra.frm hV (Nat.le_refl _))
    rw [← hba] at this; exact this
  have hcb : ∀ V, Frm w.heap.size [] w V → Calls Try.prog 100 #[.slice adb nb capb] V fun e w' => e = .returned (.tuple #[.agg #[.int .i64 blx, .int .i64 bly], .agg #[.int .i64 bhx, .int .i64 bhy]]) ∧ Frm V.heap.size [] V w' := fun V hV => by
    have := box_any adb bb offb nb capb B hnb hb1 V (hrb.frm hV (Nat.le_refl _))
    rw [← hbb] at this; exact this
  obtain ⟨u1, hu1⟩ : ∃ u, u = alx - z := ⟨_, rfl⟩
  obtain ⟨u2, hu2⟩ : ∃ u, u = aly - z := ⟨_, rfl⟩
  obtain ⟨v1, hv1⟩ : ∃ u, u = ahx + z := ⟨_, rfl⟩
  obtain ⟨v2, hv2⟩ : ∃ u, u = ahy + z := ⟨_, rfl⟩
  have hm : meetB A B z = (decide (u1 ≤ bhx) && decide (blx ≤ v1) && decide (u2 ≤ bhy) && decide (bly ≤ v2)) := by unfold meetB; rw [← hba, ← hbb, hu1, hu2, hv1, hv2]
  have e1 : IntKind.i64.wrap (alx - z) = u1 := by rw [← hu1]; exact IntWalk.i64_in _ (by omega)
  have e2 : IntKind.i64.wrap (aly - z) = u2 := by rw [← hu2]; exact IntWalk.i64_in _ (by omega)
  have e3 : IntKind.i64.wrap (ahx + z) = v1 := by rw [← hv1]; exact IntWalk.i64_in _ (by omega)
  have e4 : IntKind.i64.wrap (ahy + z) = v2 := by rw [← hv2]; exact IntWalk.i64_in _ (by omega)
  have f1 : wrap64 (alx - z) = u1 := by rw [← hu1]; exact IntWalk.wrap64_in _ (by omega)
  have f2 : wrap64 (aly - z) = u2 := by rw [← hu2]; exact IntWalk.wrap64_in _ (by omega)
  have f3 : wrap64 (ahx + z) = v1 := by rw [← hv1]; exact IntWalk.wrap64_in _ (by omega)
  have f4 : wrap64 (ahy + z) = v2 := by rw [← hv2]; exact IntWalk.wrap64_in _ (by omega)
  clear hu1 hu2 hv1 hv2 ea eb hba hbb bA bB oka okb hra hrb hna hnb hz
  have HCA := Lib.hid hca
  have HCB := Lib.hid hcb
  have HM := Lib.hid hm
  clear hm hcb hca
  go_enter Try.func87, Try.ntmps87
  go_wp2_with fail
  refine (HCA.out w (Frm.refl _ _ _)).mono ?_; rintro e w1 ⟨rfl, hf1⟩
  have HF := Lib.hid hf1
  clear hf1
  go_wp2_with (with_reducible refine atStore 71 rfl ?_; refine stop_ ?_)
  refine go_on ?_
  refine wpList_storeNew2 (P := Try.prog) (zs := [.int .i64 0, .int .i64 0]) (cs := spC (alx, aly)) (ds := spC (ahx, ahy)) rfl rfl rfl rfl rfl rfl rfl rfl rfl rfl rfl rfl info71 (spC_one _) (spC_one _) ?_
  intro V1 hf2 k7 k8
  obtain ⟨p7, hp7⟩ : ∃ p, p = w1.heap.size := ⟨_, rfl⟩
  rw [← hp7] at k7 k8 ⊢
  have hf := HF.out.call hf2 HF.out.size (by simp)
  clear hp7 hf2 HF HCA
  have HF := Lib.hid hf
  have K7 := Lib.hid k7
  have K8 := Lib.hid k8
  clear k8 k7 hf
  go_wp2_with fail
  refine (HCB.out V1 HF.out).mono ?_; rintro e w2 ⟨rfl, hf3⟩
  have hf := HF.out.call hf3 HF.out.size (by simp)
  have k7 := hf3.blk K7.out K7.out.lt (by simp)
  have k8 := hf3.blk K8.out K8.out.lt (by simp)
  clear hf3 HF K7 K8 HCB
  have HF := Lib.hid hf
  have K7 := Lib.hid k7
  have K8 := Lib.hid k8
  clear k8 k7 hf
  go_wp2_with (with_reducible refine atStore 71 rfl ?_; refine stop_ ?_)
  refine go_on ?_
  refine wpList_storeNew2 (P := Try.prog) (zs := [.int .i64 0, .int .i64 0]) (cs := spC (blx, bly)) (ds := spC (bhx, bhy)) rfl rfl rfl rfl rfl rfl rfl rfl rfl rfl rfl rfl info71 (spC_one _) (spC_one _) ?_
  intro V2 hf4 k9 k10
  obtain ⟨p9, hp9⟩ : ∃ p, p = w2.heap.size := ⟨_, rfl⟩
  rw [← hp9] at k9 k10 ⊢
  have hf := HF.out.call hf4 HF.out.size (by simp)
  have k7 := hf4.blk K7.out K7.out.lt (by simp)
  have k8 := hf4.blk K8.out K8.out.lt (by simp)
  clear hp9 hf4 HF K7 K8
  have c0 : V2.cell? ⟨p7, 0, none⟩ = some (.int .i64 alx) := k7.cell 0
  have c1 : V2.cell? ⟨p7, 1, none⟩ = some (.int .i64 aly) := k7.cell 1
  have c2 : V2.cell? ⟨p7 + 1, 0, none⟩ = some (.int .i64 ahx) := k8.cell 0
  have c3 : V2.cell? ⟨p7 + 1, 1, none⟩ = some (.int .i64 ahy) := k8.cell 1
  have c4 : V2.cell? ⟨p9, 0, none⟩ = some (.int .i64 blx) := k9.cell 0
  have c5 : V2.cell? ⟨p9, 1, none⟩ = some (.int .i64 bly) := k9.cell 1
  have c6 : V2.cell? ⟨p9 + 1, 0, none⟩ = some (.int .i64 bhx) := k10.cell 0
  have c7 : V2.cell? ⟨p9 + 1, 1, none⟩ = some (.int .i64 bhy) := k10.cell 1
  clear k7 k8 k9 k10
  have HF := Lib.hid hf
  clear hf
  by_cases d1 : u1 ≤ bhx
  · by_cases d2 : blx ≤ v1
    · by_cases d3 : u2 ≤ bhy
      · go_wp2_with fail
        go_ret
        exact ⟨by rw [HM.out, decide_eq_true d1, decide_eq_true d2, decide_eq_true d3]; rfl, HF.out⟩
      · go_wp2_with fail
        go_ret
        exact ⟨by rw [HM.out, decide_eq_false (show ¬ u2 ≤ bhy by omega)]; simp, HF.out⟩
    · go_wp2_with fail
      go_ret
      exact ⟨by rw [HM.out, decide_eq_false (show ¬ blx ≤ v1 by omega)]; simp, HF.out⟩
  · go_wp2_with fail
    go_ret
    exact ⟨by rw [HM.out, decide_eq_false (show ¬ u1 ≤ bhx by omega)]; simp, HF.out⟩
set_option maxRecDepth 100000 in
set_option maxHeartbeats 8000000 in
theorem close_any (ada : Option Addr) (ba offa na capa : Nat) (A : List Spt) (hna : na = A.length) (ha1 : 1 ≤ na) (oka : ∀ i, i < na → SpOK (spt A i)) (adb : Option Addr) (bb offb nb capb : Nat) (B : List Spt) (hnb : nb = B.length) (hb1 : 1 ≤ nb) (okb : ∀ i, i < nb → SpOK (spt B i))
    (z : Int) (hz : 0 ≤ z ∧ z ≤ 1099511627776) (w : World) (hra : RwP w ada ba offa na A) (hrb : RwP w adb bb offb nb B) :
    Calls Try.prog 62 #[.slice ada na capa, .slice adb nb capb, .int .i64 z] w fun e w' => e = .returned (.bool (closeB A B z)) ∧ Frm w.heap.size [] w w' := by
  have hf0 := Try.func62
  have bA := boxK_in (L := A) oka (by omega) na (Nat.le_refl _)
  have bB := boxK_in (L := B) okb (by omega) nb (Nat.le_refl _)
  obtain ⟨⟨alx, aly, ahx, ahy⟩, hba⟩ : ∃ x, x = boxL A := ⟨_, rfl⟩
  obtain ⟨⟨blx, bly, bhx, bhy⟩, hbb⟩ : ∃ x, x = boxL B := ⟨_, rfl⟩
  have ea : boxK A na = ⟨alx, aly, ahx, ahy⟩ := by rw [hba, hna]; rfl
  have eb : boxK B nb = ⟨blx, bly, bhx, bhy⟩ := by rw [hbb, hnb]; rfl
  rw [ea] at bA
  rw [eb] at bB
  unfold SpOK at bA bB
  dsimp only at bA bB
  have hca : ∀ V, Frm w.heap.size [] w V → Calls Try.prog 91 #[.slice ada na capa] V fun e w' => e = .returned (.tuple #[.agg #[.int .i64 alx, .int .i64 aly], .agg #[.int .i64 ahx, .int .i64 ahy]]) ∧ Frm V.heap.size [] V w' := fun V hV => by
    have := refBox_any ada ba offa na capa A hna ha1 V (hra.frm hV (Nat.le_refl _))
    rw [← hba] at this; exact this
  have hcb : ∀ V, Frm w.heap.size [] w V → Calls Try.prog 91 #[.slice adb nb capb] V fun e w' => e = .returned (.tuple #[.agg #[.int .i64 blx, .int .i64 bly], .agg #[.int .i64 bhx, .int .i64 bhy]]) ∧ Frm V.heap.size [] V w' := fun V hV => by
    have := refBox_any adb bb offb nb capb B hnb hb1 V (hrb.frm hV (Nat.le_refl _))
    rw [← hbb] at this; exact this
  obtain ⟨u1, hu1⟩ : ∃ u, u = alx - z := ⟨_, rfl⟩
  obtain ⟨u2, hu2⟩ : ∃ u, u = aly - z := ⟨_, rfl⟩
  obtain ⟨v1, hv1⟩ : ∃ u, u = ahx + z := ⟨_, rfl⟩
  obtain ⟨v2, hv2⟩ : ∃ u, u = ahy + z := ⟨_, rfl⟩
  have hm : closeB A B z = (decide (max u1 blx ≤ min v1 bhx) && decide (max u2 bly ≤ min v2 bhy)) := by unfold closeB; rw [← hba, ← hbb, hu1, hu2, hv1, hv2]
  have e1 : IntKind.i64.wrap (alx - z) = u1 := by rw [← hu1]; exact IntWalk.i64_in _ (by omega)
  have e2 : IntKind.i64.wrap (aly - z) = u2 := by rw [← hu2]; exact IntWalk.i64_in _ (by omega)
  have e3 : IntKind.i64.wrap (ahx + z) = v1 := by rw [← hv1]; exact IntWalk.i64_in _ (by omega)
  have e4 : IntKind.i64.wrap (ahy + z) = v2 := by rw [← hv2]; exact IntWalk.i64_in _ (by omega)
  have f1 : wrap64 (alx - z) = u1 := by rw [← hu1]; exact IntWalk.wrap64_in _ (by omega)
  have f2 : wrap64 (aly - z) = u2 := by rw [← hu2]; exact IntWalk.wrap64_in _ (by omega)
  have f3 : wrap64 (ahx + z) = v1 := by rw [← hv1]; exact IntWalk.wrap64_in _ (by omega)
  have f4 : wrap64 (ahy + z) = v2 := by rw [← hv2]; exact IntWalk.wrap64_in _ (by omega)
  clear hu1 hu2 hv1 hv2 ea eb hba hbb bA bB oka okb hra hrb hna hnb hz
  have HCA := Lib.hid hca
  have HCB := Lib.hid hcb
  have HM := Lib.hid hm
  clear hm hcb hca
  go_enter Try.func62, Try.ntmps62
  go_wp2_with fail
  refine (HCA.out w (Frm.refl _ _ _)).mono ?_; rintro e w1 ⟨rfl, hf1⟩
  have HF := Lib.hid hf1
  clear hf1
  go_wp2_with (with_reducible refine atStore 71 rfl ?_; refine stop_ ?_)
  refine go_on ?_
  refine wpList_storeNew2 (P := Try.prog) (zs := [.int .i64 0, .int .i64 0]) (cs := spC (alx, aly)) (ds := spC (ahx, ahy)) rfl rfl rfl rfl rfl rfl rfl rfl rfl rfl rfl rfl info71 (spC_one _) (spC_one _) ?_
  intro V1 hf2 k7 k8
  obtain ⟨p7, hp7⟩ : ∃ p, p = w1.heap.size := ⟨_, rfl⟩
  rw [← hp7] at k7 k8 ⊢
  have hf := HF.out.call hf2 HF.out.size (by simp)
  clear hp7 hf2 HF HCA
  have HF := Lib.hid hf
  have K7 := Lib.hid k7
  have K8 := Lib.hid k8
  clear k8 k7 hf
  go_wp2_with fail
  refine (HCB.out V1 HF.out).mono ?_; rintro e w2 ⟨rfl, hf3⟩
  have hf := HF.out.call hf3 HF.out.size (by simp)
  have k7 := hf3.blk K7.out K7.out.lt (by simp)
  have k8 := hf3.blk K8.out K8.out.lt (by simp)
  clear hf3 HF K7 K8 HCB
  have HF := Lib.hid hf
  have K7 := Lib.hid k7
  have K8 := Lib.hid k8
  clear k8 k7 hf
  go_wp2_with (with_reducible refine atStore 71 rfl ?_; refine stop_ ?_)
  refine go_on ?_
  refine wpList_storeNew2 (P := Try.prog) (zs := [.int .i64 0, .int .i64 0]) (cs := spC (blx, bly)) (ds := spC (bhx, bhy)) rfl rfl rfl rfl rfl rfl rfl rfl rfl rfl rfl rfl info71 (spC_one _) (spC_one _) ?_
  intro V2 hf4 k9 k10
  obtain ⟨p9, hp9⟩ : ∃ p, p = w2.heap.size := ⟨_, rfl⟩
  rw [← hp9] at k9 k10 ⊢
  have hf := HF.out.call hf4 HF.out.size (by simp)
  have k7 := hf4.blk K7.out K7.out.lt (by simp)
  have k8 := hf4.blk K8.out K8.out.lt (by simp)
  clear hp9 hf4 HF K7 K8
  have c0 : V2.cell? ⟨p7, 0, none⟩ = some (.int .i64 alx) := k7.cell 0
  have c1 : V2.cell? ⟨p7, 1, none⟩ = some (.int .i64 aly) := k7.cell 1
  have c2 : V2.cell? ⟨p7 + 1, 0, none⟩ = some (.int .i64 ahx) := k8.cell 0
  have c3 : V2.cell? ⟨p7 + 1, 1, none⟩ = some (.int .i64 ahy) := k8.cell 1
  have c4 : V2.cell? ⟨p9, 0, none⟩ = some (.int .i64 blx) := k9.cell 0
  have c5 : V2.cell? ⟨p9, 1, none⟩ = some (.int .i64 bly) := k9.cell 1
  have c6 : V2.cell? ⟨p9 + 1, 0, none⟩ = some (.int .i64 bhx) := k10.cell 0
  have c7 : V2.cell? ⟨p9 + 1, 1, none⟩ = some (.int .i64 bhy) := k10.cell 1
  clear k7 k8 k9 k10
  have HF := Lib.hid hf
  clear hf
  by_cases d1 : max u1 blx ≤ min v1 bhx
  · go_wp2_with fail
    go_ret
    exact ⟨by rw [HM.out, decide_eq_true d1]; simp, HF.out⟩
  · go_wp2_with fail
    go_ret
    exact ⟨by rw [HM.out, decide_eq_false (show ¬ max u1 blx ≤ min v1 bhx by omega)]; simp, HF.out⟩
end Go.Proofs.Ythgmdilfmeefiaa
