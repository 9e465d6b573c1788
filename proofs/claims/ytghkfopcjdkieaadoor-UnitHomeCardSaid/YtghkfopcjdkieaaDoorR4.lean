/-
  Weather on a way, by the document.
-/
import Derived.Test.YtghkfopcjdkieaaDoorU18
namespace Go.Proofs.YtghkfopcjdkieaaDoor
set_option linter.all false
set_option linter.unusedSimpArgs false
set_option linter.unusedVariables false
open Go.RowKit

/-- Does weather concern a way, by the document? -/
def concR (f : FC) (ax ay bx by_ from_ to_ : Int) : Bool := decide (max f.from_ from_ ≤ min f.to_ to_) && decide (max f.lx (min ax bx) ≤ min f.hx (max ax bx)) && decide (max f.ly (min ay by_) ≤ min f.hy (max ay by_))
theorem conc_same {f : FC} {ax ay bx by_ from_ to_ : Int} (hf : frontB f = true) (h : from_ ≤ to_) : concR f ax ay bx by_ from_ to_ = concB f ax ay bx by_ from_ to_ := by
  unfold frontB frontT frontP at hf
  simp only [Bool.and_eq_true, decide_eq_true_eq] at hf
  unfold concR concB overB
  rw [Bool.eq_iff_iff]
  simp only [Bool.and_eq_true, decide_eq_true_eq]
  omega

set_option maxRecDepth 100000 in
set_option maxHeartbeats 4000000 in
theorem concerns_any (f : FC) (ax ay bx by_ from_ to_ : Int) (w : World) :
    Calls Tryd.prog 127 #[.agg f.cells.toArray, .agg #[.int .i64 ax, .int .i64 ay], .agg #[.int .i64 bx, .int .i64 by_], .int .i64 from_, .int .i64 to_] w fun e w' => e = .returned (.bool (concR f ax ay bx by_ from_ to_)) ∧ Frm w.heap.size [] w w' := by
  have hf0 := Tryd.func127
  obtain ⟨r, hr⟩ : ∃ r, r = concR f ax ay bx by_ from_ to_ := ⟨_, rfl⟩
  rw [← hr]
  unfold concR at hr
  have HR := Lib.hid hr
  clear hr
  go_enter Tryd.func127, Tryd.ntmps127
  go_upto_region 1 with fail
  refine namedC ?_; intro W hW
  have hb5 : Blk W w.heap.size 54 f.cells := by rw [hW]; exact ((Blk.new w 54 f.cells).alloc _).alloc _
  have hb6 : Blk W (w.heap.size + 1) 23 [.int .i64 ax, .int .i64 ay] := by rw [hW]; exact (Blk.new' _ 23 [.int .i64 ax, .int .i64 ay] (by simp)).alloc _
  have hb7 : Blk W (w.heap.size + 1 + 1) 23 [.int .i64 bx, .int .i64 by_] := by rw [hW]; exact Blk.new' _ 23 [.int .i64 bx, .int .i64 by_] (by simp)
  have hf : Frm w.heap.size [] w W := by rw [hW]; repeat (first | with_reducible exact Frm.refl _ _ _ | with_reducible refine Frm.drewN ?_ | with_reducible refine Frm.drew ?_ | ((with_reducible refine Frm.setCell' ?_ ?_); · first | (left; simp; done) | (right; simp; done) | (right; simp; omega)) | ((with_reducible refine Frm.alloc' ?_ ?_); · first | exact Nat.le_refl _ | (simp; done) | (simp; omega)))
  clear hW hf0
  have a0 : W.cell? ⟨w.heap.size + 1, 0, none⟩ = some (.int .i64 ax) := hb6.cell 0
  have a1 : W.cell? ⟨w.heap.size + 1, 1, none⟩ = some (.int .i64 ay) := hb6.cell 1
  have b0 : W.cell? ⟨w.heap.size + 1 + 1, 0, none⟩ = some (.int .i64 bx) := hb7.cell 0
  have b1 : W.cell? ⟨w.heap.size + 1 + 1, 1, none⟩ = some (.int .i64 by_) := hb7.cell 1
  (have c0 : W.cell? ⟨w.heap.size, 0, none⟩ = some (.int .i64 f.from_) := hb5.cell 0; have c1 : W.cell? ⟨w.heap.size, 1, none⟩ = some (.int .i64 f.to_) := hb5.cell 1; have c2 : W.cell? ⟨w.heap.size, 2, none⟩ = some (.int .i64 f.lx) := hb5.cell 2; have c3 : W.cell? ⟨w.heap.size, 3, none⟩ = some (.int .i64 f.ly) := hb5.cell 3; have c4 : W.cell? ⟨w.heap.size, 4, none⟩ = some (.int .i64 f.hx) := hb5.cell 4; have c5 : W.cell? ⟨w.heap.size, 5, none⟩ = some (.int .i64 f.hy) := hb5.cell 5; have c6 : W.cell? ⟨w.heap.size, 6, none⟩ = some (.int .i64 f.sea) := hb5.cell 6; have c7 : W.cell? ⟨w.heap.size, 7, none⟩ = some (.int .i64 f.wind) := hb5.cell 7)
  clear hb5 hb6 hb7
  have HF := Lib.hid hf
  clear hf
  go_upto_region 4 with fail
  have hmx : ∀ a b : Int, (if a < b then b else a) = max a b := fun a b => by rw [Int.max_def]; split <;> split <;> omega
  have hmn : ∀ a b : Int, (if b < a then b else a) = min a b := fun a b => by rw [Int.min_def]; split <;> split <;> omega
  simp only [hmx, hmn]
  have hr := HR.out
  clear HR
  clear hmx hmn a0 a1 b0 b1 c0 c1 c2 c3 c4 c5 c6 c7
  generalize decide (max f.from_ from_ ≤ min f.to_ to_) = p1 at hr ⊢
  generalize decide (max f.lx (min ax bx) ≤ min f.hx (max ax bx)) = p2 at hr ⊢
  generalize decide (max f.ly (min ay by_) ≤ min f.hy (max ay by_)) = p3 at hr ⊢
  have HR := Lib.hid hr
  clear hr
  cases p1
  · go_wp2_with fail
    go_ret
    exact ⟨by rw [HR.out]; rfl, HF.out⟩
  · cases p2
    · go_wp2_with fail
      go_ret
      exact ⟨by rw [HR.out]; rfl, HF.out⟩
    · cases p3
      · go_wp2_with fail
        go_ret
        exact ⟨by rw [HR.out]; rfl, HF.out⟩
      · go_wp2_with fail
        go_ret
        exact ⟨by rw [HR.out]; rfl, HF.out⟩

theorem meas_next3 {n j : Nat} (h : j < n) : n - ((j : Int) + 1).toNat < n - ((j : Int)).toNat := by omega

set_option maxRecDepth 100000 in
set_option maxHeartbeats 4000000 in
theorem refBad_any (u : UC) (ad : Option Addr) (b off n cap : Nat) (S : Nat → FC) (ax ay bx by_ from_ to_ : Int) (w : World) (hr : Rw w 8 ad b off n fun i => (S i).cells) (hS : ∀ i, i < n → frontB (S i) = true) (hft : from_ ≤ to_) :
    Calls Tryd.prog 105 #[.agg u.cells.toArray, .slice ad n cap, .agg #[.int .i64 ax, .int .i64 ay], .agg #[.int .i64 bx, .int .i64 by_], .int .i64 from_, .int .i64 to_] w fun e w' => e = .returned (.bool (badB u n S ax ay bx by_ from_ to_)) ∧ Frm w.heap.size [] w w' := by
  have hf0 := Tryd.func105
  have hlen := hr.len
  go_enter Tryd.func105, Tryd.ntmps105
  go_upto_region 1 with fail
  refine namedC ?_; intro W hW
  have hb6 : Blk W w.heap.size 25 u.cells := by rw [hW]; exact ((Blk.new w 25 u.cells).alloc _).alloc _
  have hb8 : Blk W (w.heap.size + 1) 23 [.int .i64 ax, .int .i64 ay] := by rw [hW]; exact (Blk.new' _ 23 [.int .i64 ax, .int .i64 ay] (by simp)).alloc _
  have hb9 : Blk W (w.heap.size + 1 + 1) 23 [.int .i64 bx, .int .i64 by_] := by rw [hW]; exact Blk.new' _ 23 [.int .i64 bx, .int .i64 by_] (by simp)
  have hf : Frm w.heap.size [] w W := by rw [hW]; repeat (first | with_reducible exact Frm.refl _ _ _ | with_reducible refine Frm.drewN ?_ | with_reducible refine Frm.drew ?_ | ((with_reducible refine Frm.setCell' ?_ ?_); · first | (left; simp; done) | (right; simp; done) | (right; simp; omega)) | ((with_reducible refine Frm.alloc' ?_ ?_); · first | exact Nat.le_refl _ | (simp; done) | (simp; omega)))
  clear hW hf0
  obtain ⟨c, hc⟩ : ∃ c, c = w.heap.size := ⟨_, rfl⟩
  have hcW : c + 1 + 1 < W.heap.size := by rw [hc]; exact hb9.lt
  have hrW := hr.frm hf (Nat.le_refl _)
  have i23 : (Tryd.prog.info? 23).map (fun i => i.size) = some 2 := by kernel_rfl
  rw [← hc] at hb6 hb8 hb9 ⊢
  have HR := Lib.hid hr
  have HRW := Lib.hid hrW
  have HSS := Lib.hid hS
  have HFT := Lib.hid hft
  have HB6 := Lib.hid hb6
  have HB8 := Lib.hid hb8
  have HB9 := Lib.hid hb9
  have HF := Lib.hid hf
  have HC := Lib.hid hc
  have HCW := Lib.hid hcW
  have I23 := Lib.hid i23
  clear i23 hcW hc hf hb9 hb8 hb6 hft hS hrW hr
  go_wp2_with fail
  go_loopw [13] (fun i13 wr => ∃ j : Nat, i13 = .int .i64 j ∧ j ≤ n ∧ (∀ k, k < j → (concB (S k) ax ay bx by_ from_ to_ && !fineB u (S k)) = false) ∧ Frm W.heap.size [] W wr) (fun i13 _ => n - (intOf i13).toNat)
  case atStart => exact ⟨0, rfl, Nat.zero_le _, fun k hk => by omega, Frm.refl _ _ _⟩
  case round =>
    obtain ⟨j, rfl, hj, hall, hfr⟩ := hrel
    by_cases hjl : j < n
    · have hjl' : (j : Int) < (n : Int) := by omega
      have had := HR.out.ad (by omega)
      subst had
      have hrw := HRW.out.frm hfr (Nat.le_refl _)
      obtain ⟨f, hf⟩ : ∃ f, f = S j := ⟨_, rfl⟩
      have hfok : frontB f = true := by rw [hf]; exact HSS.out j hjl
      have hlo : ∀ V, Frm wr.heap.size [] wr V → (loadVar 54 ⟨b, off + j * 8, none⟩).run Tryd.prog V = .ok (.agg f.cells.toArray) V := fun V hV => by rw [hf]; exact (hrw.frm hV (Nat.le_refl _)).load (P := Tryd.prog) Tryd.underlying54 rfl hjl info54
      have hb6 := hfr.blk HB6.out HB6.out.lt (by simp)
      have hb8 := hfr.blk HB8.out HB8.out.lt (by simp)
      have hb9 := hfr.blk HB9.out HB9.out.lt (by simp)
      have hfx : ∀ V, Frm wr.heap.size [] wr V → V.cell? ⟨b, off + j * 8 + 6, none⟩ = some (.int .i64 f.sea) ∧ V.cell? ⟨b, off + j * 8 + 7, none⟩ = some (.int .i64 f.wind) ∧ V.cell? ⟨c, 6, none⟩ = some (.int .i64 u.sea) ∧ V.cell? ⟨c, 7, none⟩ = some (.int .i64 u.wind)
          ∧ V.cell? ⟨c + 1, 0, none⟩ = some (.int .i64 ax) ∧ V.cell? ⟨c + 1, 1, none⟩ = some (.int .i64 ay) ∧ V.cell? ⟨c + 1 + 1, 0, none⟩ = some (.int .i64 bx) ∧ V.cell? ⟨c + 1 + 1, 1, none⟩ = some (.int .i64 by_) := fun V hV => by
        have h := hrw.frm hV (Nat.le_refl _)
        have h6 := hV.blk hb6 hb6.lt (by simp)
        have h8 := hV.blk hb8 hb8.lt (by simp)
        have h9 := hV.blk hb9 hb9.lt (by simp)
        exact ⟨by rw [hf]; exact h.at_ j hjl 6 _ rfl, by rw [hf]; exact h.at_ j hjl 7 _ rfl, h6.cell 6, h6.cell 7, h8.cell 0, h8.cell 1, h9.cell 0, h9.cell 1⟩
      have HJL := Lib.hid hjl
      obtain ⟨p, hp⟩ : ∃ p, p = concB f ax ay bx by_ from_ to_ := ⟨_, rfl⟩
      have hcs := (conc_same hfok HFT.out (ax := ax) (ay := ay) (bx := bx) (by_ := by_)).trans hp.symm
      have hnext : (p && !fineB u f) = false → ∀ k, k < j + 1 → (concB (S k) ax ay bx by_ from_ to_ && !fineB u (S k)) = false := fun h k hk => by
        rcases Nat.lt_or_ge k j with e | e
        · exact hall k e
        · obtain rfl : k = j := by omega
          rw [← hf, ← hp]; exact h
      have hbad : (p && !fineB u f) = true → badB u n S ax ay bx by_ from_ to_ = true := fun h => by
        unfold badB
        rw [List.any_eq_true]
        exact ⟨j, by simpa using hjl, by rw [← hf, ← hp]; exact h⟩
      clear hb6 hb8 hb9
      have HLO := Lib.hid hlo
      have HFX := Lib.hid hfx
      have HRWW := Lib.hid hrw
      have HFR := Lib.hid hfr
      have HCS := Lib.hid hcs
      have HNEXT := Lib.hid hnext
      have HBAD := Lib.hid hbad
      have HP := Lib.hid hp
      have HFF := Lib.hid hf
      have HFOK := Lib.hid hfok
      have HALL := Lib.hid hall
      have HJL0 := Lib.hid hjl
      clear hjl hall hfok hf hp hbad hnext hcs hfr hrw hfx hlo
      go_wp2_with fail
      refine wp_region_leftL (fun V => Frm wr.heap.size [] wr V) 1000 (by kernel_rfl) ?_
      have hS : Frm wr.heap.size [] wr wr.drew := (Frm.refl _ _ wr).drew
      have HS := Lib.hid hS
      clear hS
      refine LeftL.run (v := ?_) 0 rfl (by kernel_rfl) rfl (fun _ _ d _ _ h => by cases d <;> exact h) ?_ HS.out ?_; rotate_left; (· intro V hV; obtain ⟨q0, q1, q2, q3, q4, q5, q6, q7⟩ := HFX.out V hV; clear hV; go_simp; rfl); (intro K' hK'; go_simp; refine hK' _ ?_; clear hK' K')
      refine LeftL.run (v := ?_) 1 rfl (by kernel_rfl) rfl (fun _ _ d _ _ h => by cases d <;> exact h) ?_ HS.out ?_; rotate_left; (· intro V hV; obtain ⟨q0, q1, q2, q3, q4, q5, q6, q7⟩ := HFX.out V hV; clear hV; go_simp; rfl); (intro K' hK'; go_simp; refine hK' _ ?_; clear hK' K')
      refine LeftL.run (v := ?_) 2 rfl (by kernel_rfl) rfl (fun _ _ d _ _ h => by cases d <;> exact h) ?_ HS.out ?_; rotate_left; (· intro V hV; obtain ⟨q0, q1, q2, q3, q4, q5, q6, q7⟩ := HFX.out V hV; clear hV; go_simp; rfl); (intro K' hK'; go_simp; refine hK' _ ?_; clear hK' K')
      refine LeftL.take 3 rfl (by kernel_rfl) (fun _ _ d _ _ h => by cases d <;> exact h) (yields_loadE (ty := 54) rfl rfl rfl (HLO.out)) HS.out ?_; (intro K' hK'; go_simp; refine hK' _ ?_; clear hK' K')
      refine LeftL.run (v := ?_) 4 rfl (by kernel_rfl) rfl (fun _ _ d _ _ h => by cases d <;> exact h) ?_ HS.out ?_; rotate_left; (· intro V hV; obtain ⟨q0, q1, q2, q3, q4, q5, q6, q7⟩ := HFX.out V hV; clear hV; go_simp; rfl); (intro K' hK'; go_simp; refine hK' _ ?_; clear hK' K')
      refine LeftL.run (v := ?_) 5 rfl (by kernel_rfl) rfl (fun _ _ d _ _ h => by cases d <;> exact h) ?_ HS.out ?_; rotate_left; (· intro V hV; obtain ⟨q0, q1, q2, q3, q4, q5, q6, q7⟩ := HFX.out V hV; clear hV; go_simp; rfl); (intro K' hK'; go_simp; refine hK' _ ?_; clear hK' K')
      refine LeftL.run (v := ?_) 6 rfl (by kernel_rfl) rfl (fun _ _ d _ _ h => by cases d <;> exact h) ?_ HS.out ?_; rotate_left; (· intro V hV; obtain ⟨q0, q1, q2, q3, q4, q5, q6, q7⟩ := HFX.out V hV; clear hV; go_simp; rfl); (intro K' hK'; go_simp; refine hK' _ ?_; clear hK' K')
      refine LeftL.run (v := ?_) 7 rfl (by kernel_rfl) rfl (fun _ _ d _ _ h => by cases d <;> exact h) ?_ HS.out ?_; rotate_left; (· intro V hV; obtain ⟨q0, q1, q2, q3, q4, q5, q6, q7⟩ := HFX.out V hV; clear hV; go_simp; rfl); (intro K' hK'; go_simp; refine hK' _ ?_; clear hK' K')
      refine LeftL.one 8 rfl (by kernel_rfl) ?_
      go_wp2_with fail
      refine (concerns_any f ax ay bx by_ from_ to_ _).mono ?_; rintro e w1 ⟨rfl, hf1⟩
      have hS1 := HS.out.call hf1 HS.out.size (by simp)
      clear hf1 HS
      have HS := Lib.hid hS1
      clear hS1
      rw [HCS.out]
      go_wp2_with fail
      first | refine ⟨fun _ => HS.out, ?_⟩ | refine ⟨HS.out, ?_⟩
      cases p
      · refine LeftL.run (v := ?_) 9 rfl (by kernel_rfl) rfl (fun _ _ d _ _ h => by cases d <;> exact h) ?_ HS.out ?_; rotate_left; (· intro V hV; obtain ⟨q0, q1, q2, q3, q4, q5, q6, q7⟩ := HFX.out V hV; clear hV; go_simp; rfl); (intro K' hK'; go_simp; refine hK' _ ?_; clear hK' K')
        refine LeftL.take (v := undef) 10 rfl (by kernel_rfl) (fun _ _ d _ _ h => by cases d <;> exact h) (.inr ⟨rfl, rfl⟩) HS.out ?_; (intro K' hK'; go_simp; refine hK' _ ?_; clear hK' K')
        refine LeftL.take (v := undef) 11 rfl (by kernel_rfl) (fun _ _ d _ _ h => by cases d <;> exact h) (.inr ⟨rfl, rfl⟩) HS.out ?_; (intro K' hK'; go_simp; refine hK' _ ?_; clear hK' K')
        refine LeftL.take (v := undef) 12 rfl (by kernel_rfl) (fun _ _ d _ _ h => by cases d <;> exact h) (.inr ⟨rfl, rfl⟩) HS.out ?_; (intro K' hK'; go_simp; refine hK' _ ?_; clear hK' K')
        refine LeftL.take (v := undef) 13 rfl (by kernel_rfl) (fun _ _ d _ _ h => by cases d <;> exact h) (.inr ⟨rfl, rfl⟩) HS.out ?_; (intro K' hK'; go_simp; refine hK' _ ?_; clear hK' K')
        refine LeftL.take (v := undef) 14 rfl (by kernel_rfl) (fun _ _ d _ _ h => by cases d <;> exact h) (.inr ⟨rfl, rfl⟩) HS.out ?_; (intro K' hK'; go_simp; refine hK' _ ?_; clear hK' K')
        refine LeftL.take (v := undef) 15 rfl (by kernel_rfl) (fun _ _ d _ _ h => by cases d <;> exact h) (.inr ⟨rfl, rfl⟩) HS.out ?_; (intro K' hK'; go_simp; refine hK' _ ?_; clear hK' K')
        refine LeftL.take (v := undef) 16 rfl (by kernel_rfl) (fun _ _ d _ _ h => by cases d <;> exact h) (.inr ⟨rfl, rfl⟩) HS.out ?_; (intro K' hK'; go_simp; refine hK' _ ?_; clear hK' K')
        refine LeftL.take (v := undef) 17 rfl (by kernel_rfl) (fun _ _ d _ _ h => by cases d <;> exact h) (.inr ⟨rfl, rfl⟩) HS.out ?_; (intro K' hK'; go_simp; refine hK' _ ?_; clear hK' K')
        refine LeftL.take (v := undef) 18 rfl (by kernel_rfl) (fun _ _ d _ _ h => by cases d <;> exact h) (.inr ⟨rfl, rfl⟩) HS.out ?_; (intro K' hK'; go_simp; refine hK' _ ?_; clear hK' K')
        refine LeftL.take (v := undef) 19 rfl (by kernel_rfl) (fun _ _ d _ _ h => by cases d <;> exact h) (.inr ⟨rfl, rfl⟩) HS.out ?_; (intro K' hK'; go_simp; refine hK' _ ?_; clear hK' K')
        refine LeftL.take (v := undef) 20 rfl (by kernel_rfl) (fun _ _ d _ _ h => by cases d <;> exact h) (.inr ⟨rfl, rfl⟩) HS.out ?_; (intro K' hK'; go_simp; refine hK' _ ?_; clear hK' K')
        refine LeftL.take (v := undef) 21 rfl (by kernel_rfl) (fun _ _ d _ _ h => by cases d <;> exact h) (.inr ⟨rfl, rfl⟩) HS.out ?_; (intro K' hK'; go_simp; refine hK' _ ?_; clear hK' K')
        refine LeftL.take (v := undef) 22 rfl (by kernel_rfl) (fun _ _ d _ _ h => by cases d <;> exact h) (.inr ⟨rfl, rfl⟩) HS.out ?_; (intro K' hK'; go_simp; refine hK' _ ?_; clear hK' K')
        refine LeftL.take (v := undef) 23 rfl (by kernel_rfl) (fun _ _ d _ _ h => by cases d <;> exact h) (.inr ⟨rfl, rfl⟩) HS.out ?_; (intro K' hK'; go_simp; refine hK' _ ?_; clear hK' K')
        refine LeftL.take (v := undef) 24 rfl (by kernel_rfl) (fun _ _ d _ _ h => by cases d <;> exact h) (.inr ⟨rfl, rfl⟩) HS.out ?_; (intro K' hK'; go_simp; refine hK' _ ?_; clear hK' K')
        refine LeftL.take (v := undef) 25 rfl (by kernel_rfl) (fun _ _ d _ _ h => by cases d <;> exact h) (.inr ⟨rfl, rfl⟩) HS.out ?_; (intro K' hK'; go_simp; refine hK' _ ?_; clear hK' K')
        refine LeftL.take (v := undef) 26 rfl (by kernel_rfl) (fun _ _ d _ _ h => by cases d <;> exact h) (.inr ⟨rfl, rfl⟩) HS.out ?_; (intro K' hK'; go_simp; refine hK' _ ?_; clear hK' K')
        refine LeftL.take (v := undef) 27 rfl (by kernel_rfl) (fun _ _ d _ _ h => by cases d <;> exact h) (.inr ⟨rfl, rfl⟩) HS.out ?_; (intro K' hK'; go_simp; refine hK' _ ?_; clear hK' K')
        refine LeftL.one 28 rfl (by kernel_rfl) ?_
        go_wp2_with fail
        first | refine ⟨fun _ => HS.out, ?_⟩ | refine ⟨HS.out, ?_⟩
        refine LeftL.done (by kernel_rfl) ?_
        go_wp2_with fail
        have hwr : wrap64 ((j : Int) + 1) = (j : Int) + 1 := IntWalk.wrap64_in _ (by have : n ≤ 9223372036854775807 := hlen; omega)
        exact ⟨⟨j + 1, by rw [hwr]; simp, HJL0.out, HNEXT.out (by simp [fineB]), HFR.out.call HS.out HFR.out.size (by simp)⟩, by rw [hwr]; exact meas_next3 HJL0.out⟩
      · by_cases hs : f.sea ≤ u.sea
        · have hs' : ¬ u.sea < f.sea := by omega
          by_cases hw : f.wind ≤ u.wind
          · have hw' : ¬ u.wind < f.wind := by omega
            refine LeftL.run (v := ?_) 9 rfl (by kernel_rfl) rfl (fun _ _ d _ _ h => by cases d <;> exact h) ?_ HS.out ?_; rotate_left; (· intro V hV; obtain ⟨q0, q1, q2, q3, q4, q5, q6, q7⟩ := HFX.out V hV; clear hV; go_simp; rfl); (intro K' hK'; go_simp; refine hK' _ ?_; clear hK' K')
            refine LeftL.runG (v := ?_) 10 rfl (by kernel_rfl) rfl (fun _ _ d _ _ h => by cases d <;> exact h) ?_ HS.out ?_; rotate_left; (· intro V hV; obtain ⟨q0, q1, q2, q3, q4, q5, q6, q7⟩ := HFX.out V hV; clear hV; go_simp; rfl); (intro K' hK'; go_simp; refine hK' _ ?_; clear hK' K')
            refine LeftL.runG (v := ?_) 11 rfl (by kernel_rfl) rfl (fun _ _ d _ _ h => by cases d <;> exact h) ?_ HS.out ?_; rotate_left; (· intro V hV; obtain ⟨q0, q1, q2, q3, q4, q5, q6, q7⟩ := HFX.out V hV; clear hV; go_simp; rfl); (intro K' hK'; go_simp; refine hK' _ ?_; clear hK' K')
            refine LeftL.runG (v := ?_) 12 rfl (by kernel_rfl) rfl (fun _ _ d _ _ h => by cases d <;> exact h) ?_ HS.out ?_; rotate_left; (· intro V hV; obtain ⟨q0, q1, q2, q3, q4, q5, q6, q7⟩ := HFX.out V hV; clear hV; go_simp; rfl); (intro K' hK'; go_simp; refine hK' _ ?_; clear hK' K')
            refine LeftL.runG (v := ?_) 13 rfl (by kernel_rfl) rfl (fun _ _ d _ _ h => by cases d <;> exact h) ?_ HS.out ?_; rotate_left; (· intro V hV; obtain ⟨q0, q1, q2, q3, q4, q5, q6, q7⟩ := HFX.out V hV; clear hV; go_simp; rfl); (intro K' hK'; go_simp; refine hK' _ ?_; clear hK' K')
            refine LeftL.runG (v := ?_) 14 rfl (by kernel_rfl) rfl (fun _ _ d _ _ h => by cases d <;> exact h) ?_ HS.out ?_; rotate_left; (· intro V hV; obtain ⟨q0, q1, q2, q3, q4, q5, q6, q7⟩ := HFX.out V hV; clear hV; go_simp; rfl); (intro K' hK'; go_simp; refine hK' _ ?_; clear hK' K')
            refine LeftL.runG (v := ?_) 15 rfl (by kernel_rfl) rfl (fun _ _ d _ _ h => by cases d <;> exact h) ?_ HS.out ?_; rotate_left; (· intro V hV; obtain ⟨q0, q1, q2, q3, q4, q5, q6, q7⟩ := HFX.out V hV; clear hV; go_simp; rfl); (intro K' hK'; go_simp; refine hK' _ ?_; clear hK' K')
            refine LeftL.runG (v := ?_) 16 rfl (by kernel_rfl) rfl (fun _ _ d _ _ h => by cases d <;> exact h) ?_ HS.out ?_; rotate_left; (· intro V hV; obtain ⟨q0, q1, q2, q3, q4, q5, q6, q7⟩ := HFX.out V hV; clear hV; go_simp; rfl); (intro K' hK'; go_simp; refine hK' _ ?_; clear hK' K')
            refine LeftL.runG (v := ?_) 17 rfl (by kernel_rfl) rfl (fun _ _ d _ _ h => by cases d <;> exact h) ?_ HS.out ?_; rotate_left; (· intro V hV; obtain ⟨q0, q1, q2, q3, q4, q5, q6, q7⟩ := HFX.out V hV; clear hV; go_simp; rfl); (intro K' hK'; go_simp; refine hK' _ ?_; clear hK' K')
            refine LeftL.runG (v := ?_) 18 rfl (by kernel_rfl) rfl (fun _ _ d _ _ h => by cases d <;> exact h) ?_ HS.out ?_; rotate_left; (· intro V hV; obtain ⟨q0, q1, q2, q3, q4, q5, q6, q7⟩ := HFX.out V hV; clear hV; go_simp; rfl); (intro K' hK'; go_simp; refine hK' _ ?_; clear hK' K')
            refine LeftL.runG (v := ?_) 19 rfl (by kernel_rfl) rfl (fun _ _ d _ _ h => by cases d <;> exact h) ?_ HS.out ?_; rotate_left; (· intro V hV; obtain ⟨q0, q1, q2, q3, q4, q5, q6, q7⟩ := HFX.out V hV; clear hV; go_simp; rfl); (intro K' hK'; go_simp; refine hK' _ ?_; clear hK' K')
            refine LeftL.runG (v := ?_) 20 rfl (by kernel_rfl) rfl (fun _ _ d _ _ h => by cases d <;> exact h) ?_ HS.out ?_; rotate_left; (· intro V hV; obtain ⟨q0, q1, q2, q3, q4, q5, q6, q7⟩ := HFX.out V hV; clear hV; go_simp; rfl); (intro K' hK'; go_simp; refine hK' _ ?_; clear hK' K')
            refine LeftL.runG (v := ?_) 21 rfl (by kernel_rfl) rfl (fun _ _ d _ _ h => by cases d <;> exact h) ?_ HS.out ?_; rotate_left; (· intro V hV; obtain ⟨q0, q1, q2, q3, q4, q5, q6, q7⟩ := HFX.out V hV; clear hV; go_simp; rfl); (intro K' hK'; go_simp; refine hK' _ ?_; clear hK' K')
            refine LeftL.runG (v := ?_) 22 rfl (by kernel_rfl) rfl (fun _ _ d _ _ h => by cases d <;> exact h) ?_ HS.out ?_; rotate_left; (· intro V hV; obtain ⟨q0, q1, q2, q3, q4, q5, q6, q7⟩ := HFX.out V hV; clear hV; go_simp; rfl); (intro K' hK'; go_simp; refine hK' _ ?_; clear hK' K')
            refine LeftL.runG (v := ?_) 23 rfl (by kernel_rfl) rfl (fun _ _ d _ _ h => by cases d <;> exact h) ?_ HS.out ?_; rotate_left; (· intro V hV; obtain ⟨q0, q1, q2, q3, q4, q5, q6, q7⟩ := HFX.out V hV; clear hV; go_simp; rfl); (intro K' hK'; go_simp; refine hK' _ ?_; clear hK' K')
            refine LeftL.runG (v := ?_) 24 rfl (by kernel_rfl) rfl (fun _ _ d _ _ h => by cases d <;> exact h) ?_ HS.out ?_; rotate_left; (· intro V hV; obtain ⟨q0, q1, q2, q3, q4, q5, q6, q7⟩ := HFX.out V hV; clear hV; go_simp; rfl); (intro K' hK'; go_simp; refine hK' _ ?_; clear hK' K')
            refine LeftL.runG (v := ?_) 25 rfl (by kernel_rfl) rfl (fun _ _ d _ _ h => by cases d <;> exact h) ?_ HS.out ?_; rotate_left; (· intro V hV; obtain ⟨q0, q1, q2, q3, q4, q5, q6, q7⟩ := HFX.out V hV; clear hV; go_simp; rfl); (intro K' hK'; go_simp; refine hK' _ ?_; clear hK' K')
            refine LeftL.runG (v := ?_) 26 rfl (by kernel_rfl) rfl (fun _ _ d _ _ h => by cases d <;> exact h) ?_ HS.out ?_; rotate_left; (· intro V hV; obtain ⟨q0, q1, q2, q3, q4, q5, q6, q7⟩ := HFX.out V hV; clear hV; go_simp; rfl); (intro K' hK'; go_simp; refine hK' _ ?_; clear hK' K')
            refine LeftL.runG (v := ?_) 27 rfl (by kernel_rfl) rfl (fun _ _ d _ _ h => by cases d <;> exact h) ?_ HS.out ?_; rotate_left; (· intro V hV; obtain ⟨q0, q1, q2, q3, q4, q5, q6, q7⟩ := HFX.out V hV; clear hV; go_simp; rfl); (intro K' hK'; go_simp; refine hK' _ ?_; clear hK' K')
            refine LeftL.one 28 rfl (by kernel_rfl) ?_
            go_wp2_with fail
            first | refine ⟨fun _ => HS.out, ?_⟩ | refine ⟨HS.out, ?_⟩
            refine LeftL.done (by kernel_rfl) ?_
            go_wp2_with fail
            have hwr : wrap64 ((j : Int) + 1) = (j : Int) + 1 := IntWalk.wrap64_in _ (by have : n ≤ 9223372036854775807 := hlen; omega)
            exact ⟨⟨j + 1, by rw [hwr]; simp, HJL0.out, HNEXT.out (by simp [fineB, hs, hw]), HFR.out.call HS.out HFR.out.size (by simp)⟩, by rw [hwr]; exact meas_next3 HJL0.out⟩
          · have hw' : u.wind < f.wind := by omega
            refine LeftL.run (v := ?_) 9 rfl (by kernel_rfl) rfl (fun _ _ d _ _ h => by cases d <;> exact h) ?_ HS.out ?_; rotate_left; (· intro V hV; obtain ⟨q0, q1, q2, q3, q4, q5, q6, q7⟩ := HFX.out V hV; clear hV; go_simp; rfl); (intro K' hK'; go_simp; refine hK' _ ?_; clear hK' K')
            refine LeftL.runG (v := ?_) 10 rfl (by kernel_rfl) rfl (fun _ _ d _ _ h => by cases d <;> exact h) ?_ HS.out ?_; rotate_left; (· intro V hV; obtain ⟨q0, q1, q2, q3, q4, q5, q6, q7⟩ := HFX.out V hV; clear hV; go_simp; rfl); (intro K' hK'; go_simp; refine hK' _ ?_; clear hK' K')
            refine LeftL.runG (v := ?_) 11 rfl (by kernel_rfl) rfl (fun _ _ d _ _ h => by cases d <;> exact h) ?_ HS.out ?_; rotate_left; (· intro V hV; obtain ⟨q0, q1, q2, q3, q4, q5, q6, q7⟩ := HFX.out V hV; clear hV; go_simp; rfl); (intro K' hK'; go_simp; refine hK' _ ?_; clear hK' K')
            refine LeftL.runG (v := ?_) 12 rfl (by kernel_rfl) rfl (fun _ _ d _ _ h => by cases d <;> exact h) ?_ HS.out ?_; rotate_left; (· intro V hV; obtain ⟨q0, q1, q2, q3, q4, q5, q6, q7⟩ := HFX.out V hV; clear hV; go_simp; rfl); (intro K' hK'; go_simp; refine hK' _ ?_; clear hK' K')
            refine LeftL.runG (v := ?_) 13 rfl (by kernel_rfl) rfl (fun _ _ d _ _ h => by cases d <;> exact h) ?_ HS.out ?_; rotate_left; (· intro V hV; obtain ⟨q0, q1, q2, q3, q4, q5, q6, q7⟩ := HFX.out V hV; clear hV; go_simp; rfl); (intro K' hK'; go_simp; refine hK' _ ?_; clear hK' K')
            refine LeftL.runG (v := ?_) 14 rfl (by kernel_rfl) rfl (fun _ _ d _ _ h => by cases d <;> exact h) ?_ HS.out ?_; rotate_left; (· intro V hV; obtain ⟨q0, q1, q2, q3, q4, q5, q6, q7⟩ := HFX.out V hV; clear hV; go_simp; rfl); (intro K' hK'; go_simp; refine hK' _ ?_; clear hK' K')
            refine LeftL.runG (v := ?_) 15 rfl (by kernel_rfl) rfl (fun _ _ d _ _ h => by cases d <;> exact h) ?_ HS.out ?_; rotate_left; (· intro V hV; obtain ⟨q0, q1, q2, q3, q4, q5, q6, q7⟩ := HFX.out V hV; clear hV; go_simp; rfl); (intro K' hK'; go_simp; refine hK' _ ?_; clear hK' K')
            refine LeftL.runG (v := ?_) 16 rfl (by kernel_rfl) rfl (fun _ _ d _ _ h => by cases d <;> exact h) ?_ HS.out ?_; rotate_left; (· intro V hV; obtain ⟨q0, q1, q2, q3, q4, q5, q6, q7⟩ := HFX.out V hV; clear hV; go_simp; rfl); (intro K' hK'; go_simp; refine hK' _ ?_; clear hK' K')
            refine LeftL.runG (v := ?_) 17 rfl (by kernel_rfl) rfl (fun _ _ d _ _ h => by cases d <;> exact h) ?_ HS.out ?_; rotate_left; (· intro V hV; obtain ⟨q0, q1, q2, q3, q4, q5, q6, q7⟩ := HFX.out V hV; clear hV; go_simp; rfl); (intro K' hK'; go_simp; refine hK' _ ?_; clear hK' K')
            refine LeftL.runG (v := ?_) 18 rfl (by kernel_rfl) rfl (fun _ _ d _ _ h => by cases d <;> exact h) ?_ HS.out ?_; rotate_left; (· intro V hV; obtain ⟨q0, q1, q2, q3, q4, q5, q6, q7⟩ := HFX.out V hV; clear hV; go_simp; rfl); (intro K' hK'; go_simp; refine hK' _ ?_; clear hK' K')
            refine LeftL.runG (v := ?_) 19 rfl (by kernel_rfl) rfl (fun _ _ d _ _ h => by cases d <;> exact h) ?_ HS.out ?_; rotate_left; (· intro V hV; obtain ⟨q0, q1, q2, q3, q4, q5, q6, q7⟩ := HFX.out V hV; clear hV; go_simp; rfl); (intro K' hK'; go_simp; refine hK' _ ?_; clear hK' K')
            refine LeftL.runG (v := ?_) 20 rfl (by kernel_rfl) rfl (fun _ _ d _ _ h => by cases d <;> exact h) ?_ HS.out ?_; rotate_left; (· intro V hV; obtain ⟨q0, q1, q2, q3, q4, q5, q6, q7⟩ := HFX.out V hV; clear hV; go_simp; rfl); (intro K' hK'; go_simp; refine hK' _ ?_; clear hK' K')
            refine LeftL.runG (v := ?_) 21 rfl (by kernel_rfl) rfl (fun _ _ d _ _ h => by cases d <;> exact h) ?_ HS.out ?_; rotate_left; (· intro V hV; obtain ⟨q0, q1, q2, q3, q4, q5, q6, q7⟩ := HFX.out V hV; clear hV; go_simp; rfl); (intro K' hK'; go_simp; refine hK' _ ?_; clear hK' K')
            refine LeftL.runG (v := ?_) 22 rfl (by kernel_rfl) rfl (fun _ _ d _ _ h => by cases d <;> exact h) ?_ HS.out ?_; rotate_left; (· intro V hV; obtain ⟨q0, q1, q2, q3, q4, q5, q6, q7⟩ := HFX.out V hV; clear hV; go_simp; rfl); (intro K' hK'; go_simp; refine hK' _ ?_; clear hK' K')
            refine LeftL.runG (v := ?_) 23 rfl (by kernel_rfl) rfl (fun _ _ d _ _ h => by cases d <;> exact h) ?_ HS.out ?_; rotate_left; (· intro V hV; obtain ⟨q0, q1, q2, q3, q4, q5, q6, q7⟩ := HFX.out V hV; clear hV; go_simp; rfl); (intro K' hK'; go_simp; refine hK' _ ?_; clear hK' K')
            refine LeftL.runG (v := ?_) 24 rfl (by kernel_rfl) rfl (fun _ _ d _ _ h => by cases d <;> exact h) ?_ HS.out ?_; rotate_left; (· intro V hV; obtain ⟨q0, q1, q2, q3, q4, q5, q6, q7⟩ := HFX.out V hV; clear hV; go_simp; rfl); (intro K' hK'; go_simp; refine hK' _ ?_; clear hK' K')
            refine LeftL.runG (v := ?_) 25 rfl (by kernel_rfl) rfl (fun _ _ d _ _ h => by cases d <;> exact h) ?_ HS.out ?_; rotate_left; (· intro V hV; obtain ⟨q0, q1, q2, q3, q4, q5, q6, q7⟩ := HFX.out V hV; clear hV; go_simp; rfl); (intro K' hK'; go_simp; refine hK' _ ?_; clear hK' K')
            refine LeftL.runG (v := ?_) 26 rfl (by kernel_rfl) rfl (fun _ _ d _ _ h => by cases d <;> exact h) ?_ HS.out ?_; rotate_left; (· intro V hV; obtain ⟨q0, q1, q2, q3, q4, q5, q6, q7⟩ := HFX.out V hV; clear hV; go_simp; rfl); (intro K' hK'; go_simp; refine hK' _ ?_; clear hK' K')
            refine LeftL.runG (v := ?_) 27 rfl (by kernel_rfl) rfl (fun _ _ d _ _ h => by cases d <;> exact h) ?_ HS.out ?_; rotate_left; (· intro V hV; obtain ⟨q0, q1, q2, q3, q4, q5, q6, q7⟩ := HFX.out V hV; clear hV; go_simp; rfl); (intro K' hK'; go_simp; refine hK' _ ?_; clear hK' K')
            refine LeftL.one 28 rfl (by kernel_rfl) ?_
            go_wp2_with fail
            first | refine ⟨fun _ => HS.out, ?_⟩ | refine ⟨HS.out, ?_⟩
            refine LeftL.done (by kernel_rfl) ?_
            go_wp2_with fail
            go_ret
            exact ⟨by rw [HBAD.out (by simp [fineB, hs, hw])]; rfl, HF.out.call (HFR.out.call HS.out HFR.out.size (by simp)) HF.out.size (by simp)⟩
        · have hs' : u.sea < f.sea := by omega
          refine LeftL.run (v := ?_) 9 rfl (by kernel_rfl) rfl (fun _ _ d _ _ h => by cases d <;> exact h) ?_ HS.out ?_; rotate_left; (· intro V hV; obtain ⟨q0, q1, q2, q3, q4, q5, q6, q7⟩ := HFX.out V hV; clear hV; go_simp; rfl); (intro K' hK'; go_simp; refine hK' _ ?_; clear hK' K')
          refine LeftL.runG (v := ?_) 10 rfl (by kernel_rfl) rfl (fun _ _ d _ _ h => by cases d <;> exact h) ?_ HS.out ?_; rotate_left; (· intro V hV; obtain ⟨q0, q1, q2, q3, q4, q5, q6, q7⟩ := HFX.out V hV; clear hV; go_simp; rfl); (intro K' hK'; go_simp; refine hK' _ ?_; clear hK' K')
          refine LeftL.runG (v := ?_) 11 rfl (by kernel_rfl) rfl (fun _ _ d _ _ h => by cases d <;> exact h) ?_ HS.out ?_; rotate_left; (· intro V hV; obtain ⟨q0, q1, q2, q3, q4, q5, q6, q7⟩ := HFX.out V hV; clear hV; go_simp; rfl); (intro K' hK'; go_simp; refine hK' _ ?_; clear hK' K')
          refine LeftL.runG (v := ?_) 12 rfl (by kernel_rfl) rfl (fun _ _ d _ _ h => by cases d <;> exact h) ?_ HS.out ?_; rotate_left; (· intro V hV; obtain ⟨q0, q1, q2, q3, q4, q5, q6, q7⟩ := HFX.out V hV; clear hV; go_simp; rfl); (intro K' hK'; go_simp; refine hK' _ ?_; clear hK' K')
          refine LeftL.runG (v := ?_) 13 rfl (by kernel_rfl) rfl (fun _ _ d _ _ h => by cases d <;> exact h) ?_ HS.out ?_; rotate_left; (· intro V hV; obtain ⟨q0, q1, q2, q3, q4, q5, q6, q7⟩ := HFX.out V hV; clear hV; go_simp; rfl); (intro K' hK'; go_simp; refine hK' _ ?_; clear hK' K')
          refine LeftL.runG (v := ?_) 14 rfl (by kernel_rfl) rfl (fun _ _ d _ _ h => by cases d <;> exact h) ?_ HS.out ?_; rotate_left; (· intro V hV; obtain ⟨q0, q1, q2, q3, q4, q5, q6, q7⟩ := HFX.out V hV; clear hV; go_simp; rfl); (intro K' hK'; go_simp; refine hK' _ ?_; clear hK' K')
          refine LeftL.runG (v := ?_) 15 rfl (by kernel_rfl) rfl (fun _ _ d _ _ h => by cases d <;> exact h) ?_ HS.out ?_; rotate_left; (· intro V hV; obtain ⟨q0, q1, q2, q3, q4, q5, q6, q7⟩ := HFX.out V hV; clear hV; go_simp; rfl); (intro K' hK'; go_simp; refine hK' _ ?_; clear hK' K')
          refine LeftL.runG (v := ?_) 16 rfl (by kernel_rfl) rfl (fun _ _ d _ _ h => by cases d <;> exact h) ?_ HS.out ?_; rotate_left; (· intro V hV; obtain ⟨q0, q1, q2, q3, q4, q5, q6, q7⟩ := HFX.out V hV; clear hV; go_simp; rfl); (intro K' hK'; go_simp; refine hK' _ ?_; clear hK' K')
          refine LeftL.runG (v := ?_) 17 rfl (by kernel_rfl) rfl (fun _ _ d _ _ h => by cases d <;> exact h) ?_ HS.out ?_; rotate_left; (· intro V hV; obtain ⟨q0, q1, q2, q3, q4, q5, q6, q7⟩ := HFX.out V hV; clear hV; go_simp; rfl); (intro K' hK'; go_simp; refine hK' _ ?_; clear hK' K')
          refine LeftL.runG (v := ?_) 18 rfl (by kernel_rfl) rfl (fun _ _ d _ _ h => by cases d <;> exact h) ?_ HS.out ?_; rotate_left; (· intro V hV; obtain ⟨q0, q1, q2, q3, q4, q5, q6, q7⟩ := HFX.out V hV; clear hV; go_simp; rfl); (intro K' hK'; go_simp; refine hK' _ ?_; clear hK' K')
          refine LeftL.take (v := undef) 19 rfl (by kernel_rfl) (fun _ _ d _ _ h => by cases d <;> exact h) (.inr ⟨rfl, rfl⟩) HS.out ?_; (intro K' hK'; go_simp; refine hK' _ ?_; clear hK' K')
          refine LeftL.take (v := undef) 20 rfl (by kernel_rfl) (fun _ _ d _ _ h => by cases d <;> exact h) (.inr ⟨rfl, rfl⟩) HS.out ?_; (intro K' hK'; go_simp; refine hK' _ ?_; clear hK' K')
          refine LeftL.take (v := undef) 21 rfl (by kernel_rfl) (fun _ _ d _ _ h => by cases d <;> exact h) (.inr ⟨rfl, rfl⟩) HS.out ?_; (intro K' hK'; go_simp; refine hK' _ ?_; clear hK' K')
          refine LeftL.take (v := undef) 22 rfl (by kernel_rfl) (fun _ _ d _ _ h => by cases d <;> exact h) (.inr ⟨rfl, rfl⟩) HS.out ?_; (intro K' hK'; go_simp; refine hK' _ ?_; clear hK' K')
          refine LeftL.take (v := undef) 23 rfl (by kernel_rfl) (fun _ _ d _ _ h => by cases d <;> exact h) (.inr ⟨rfl, rfl⟩) HS.out ?_; (intro K' hK'; go_simp; refine hK' _ ?_; clear hK' K')
          refine LeftL.take (v := undef) 24 rfl (by kernel_rfl) (fun _ _ d _ _ h => by cases d <;> exact h) (.inr ⟨rfl, rfl⟩) HS.out ?_; (intro K' hK'; go_simp; refine hK' _ ?_; clear hK' K')
          refine LeftL.take (v := undef) 25 rfl (by kernel_rfl) (fun _ _ d _ _ h => by cases d <;> exact h) (.inr ⟨rfl, rfl⟩) HS.out ?_; (intro K' hK'; go_simp; refine hK' _ ?_; clear hK' K')
          refine LeftL.take (v := undef) 26 rfl (by kernel_rfl) (fun _ _ d _ _ h => by cases d <;> exact h) (.inr ⟨rfl, rfl⟩) HS.out ?_; (intro K' hK'; go_simp; refine hK' _ ?_; clear hK' K')
          refine LeftL.runG (v := ?_) 27 rfl (by kernel_rfl) rfl (fun _ _ d _ _ h => by cases d <;> exact h) ?_ HS.out ?_; rotate_left; (· intro V hV; obtain ⟨q0, q1, q2, q3, q4, q5, q6, q7⟩ := HFX.out V hV; clear hV; go_simp; rfl); (intro K' hK'; go_simp; refine hK' _ ?_; clear hK' K')
          refine LeftL.one 28 rfl (by kernel_rfl) ?_
          go_wp2_with fail
          first | refine ⟨fun _ => HS.out, ?_⟩ | refine ⟨HS.out, ?_⟩
          refine LeftL.done (by kernel_rfl) ?_
          go_wp2_with fail
          go_ret
          exact ⟨by rw [HBAD.out (by simp [fineB]; omega)]; rfl, HF.out.call (HFR.out.call HS.out HFR.out.size (by simp)) HF.out.size (by simp)⟩
    · have hjl' : ¬ (j : Int) < (n : Int) := by omega
      obtain rfl : j = n := by omega
      have HALL := Lib.hid hall
      have HFR := Lib.hid hfr
      clear hfr hall
      go_wp2_with fail
      go_ret
      refine ⟨?_, HF.out.call HFR.out HF.out.size (by simp)⟩
      have : badB u j S ax ay bx by_ from_ to_ = false := by
        unfold badB
        rw [List.any_eq_false]
        intro k hk
        rw [HALL.out k (by simpa using hk)]
        simp
      rw [this]; rfl
end Go.Proofs.YtghkfopcjdkieaaDoor
