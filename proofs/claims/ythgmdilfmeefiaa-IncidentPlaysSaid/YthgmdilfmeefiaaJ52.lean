/-
  The document: two lists of numbers that are the same; two reports that are the same.
-/
import Derived.Test.YthgmdilfmeefiaaJ51
namespace Go.Proofs.Ythgmdilfmeefiaa
set_option linter.all false
set_option linter.unusedSimpArgs false
set_option linter.unusedVariables false
open Go.RowKit

set_option maxRecDepth 100000 in
set_option maxHeartbeats 8000000 in
theorem refInts_any {wa wb w : World} {va vb : Value} {l : List Nat} (ha : Ints wa w va l) (hb : Ints wb w vb l) (hl : l.length ≤ 1000) :
    Calls Try.prog 46 #[va, vb] w fun e w' => e = .returned (.bool true) ∧ Frm w.heap.size [] w w' := by
  have hf0 := Try.func46
  obtain ⟨owa, hsa, _⟩ := ha
  obtain ⟨owb, hsb, _⟩ := hb
  obtain ⟨a1, b1, o1, c1, rfl, hr1⟩ := ints_at0 hsa
  obtain ⟨a2, b2, o2, c2, rfl, hr2⟩ := ints_at0 hsb
  obtain ⟨M, hM⟩ : ∃ c, c = l.length := ⟨_, rfl⟩
  rw [← hM] at hr1 hr2 hl ⊢
  have ad1 := hr1.ad
  have ad2 := hr2.ad
  clear hsa hsb hM
  have HR1 := Lib.hid hr1
  have HR2 := Lib.hid hr2
  have HL := Lib.hid hl
  have AD1 := Lib.hid ad1
  have AD2 := Lib.hid ad2
  clear ad2 ad1 hl hr2 hr1
  go_enter Try.func46, Try.ntmps46
  go_wp2_with fail
  go_loopw [5] (fun s5 wr => ∃ j : Nat, s5 = .int .i64 j ∧ j ≤ M ∧ Frm w.heap.size [] w wr) (fun s5 _ => M - (intOf s5).toNat)
  case atStart => exact ⟨0, rfl, Nat.zero_le _, Frm.refl _ _ _⟩
  case round =>
    obtain ⟨j, rfl, hj, hf⟩ := hrel
    by_cases hjl : j < M
    rotate_left
    · have hjl' : ¬ (j : Int) < (M : Int) := by omega
      obtain rfl : j = M := by omega
      have HF := Lib.hid hf
      clear hf
      go_wp2_with fail
      go_ret
      exact ⟨rfl, HF.out⟩
    have hjl' : (j : Int) < (M : Int) := by omega
    have ad1 := AD1.out (by omega)
    have ad2 := AD2.out (by omega)
    subst ad1
    subst ad2
    obtain ⟨y4, y5⟩ := wrapUp hjl (Nat.le_trans HL.out (by decide))
    have hms := meas_up hjl
    obtain ⟨x, hx⟩ : ∃ x, x = at0 l j := ⟨_, rfl⟩
    have hfx : ∀ V, Frm wr.heap.size [] wr V → V.cell? ⟨b1, o1 + j, none⟩ = some (.int .i64 x) ∧ V.cell? ⟨b2, o2 + j, none⟩ = some (.int .i64 x) := fun V hV => by
      have hV2 := hf.call hV hf.size (by simp)
      rw [hx]
      exact ⟨(HR1.out.frm hV2 (Nat.le_refl _)).cellI hjl, (HR2.out.frm hV2 (Nat.le_refl _)).cellI hjl⟩
    clear hx
    have HF := Lib.hid hf
    have HFX := Lib.hid hfx
    have HMS := Lib.hid hms
    have HJL := Lib.hid hjl
    clear hjl hms hfx hf
    go_upto_region 6 with fail
    refine wp_region_leftL (fun V => Frm wr.heap.size [] wr V) 1000 (by kernel_rfl) ?_
    have hS : Frm wr.heap.size [] wr wr.drew := (Frm.refl _ _ wr).drew
    have HS := Lib.hid hS
    clear hS
    first | (refine LeftL.tkG (v := ?_) 0 rfl HS.out ?_ ?_; rotate_left; · intro V hV; obtain ⟨z1, z2⟩ := HFX.out V hV; clear hV; go_simp; rfl) | refine LeftL.tkN 0 rfl HS.out ?_
    (intro K h; go_simp; refine h _ ?_; clear h K)
    first | (refine LeftL.tkG (v := ?_) 1 rfl HS.out ?_ ?_; rotate_left; · intro V hV; obtain ⟨z1, z2⟩ := HFX.out V hV; clear hV; go_simp; rfl) | refine LeftL.tkN 1 rfl HS.out ?_
    (intro K h; go_simp; refine h _ ?_; clear h K)
    first | (refine LeftL.tkG (v := ?_) 2 rfl HS.out ?_ ?_; rotate_left; · intro V hV; obtain ⟨z1, z2⟩ := HFX.out V hV; clear hV; go_simp; rfl) | refine LeftL.tkN 2 rfl HS.out ?_
    (intro K h; go_simp; refine h _ ?_; clear h K)
    first | (refine LeftL.tkG (v := ?_) 3 rfl HS.out ?_ ?_; rotate_left; · intro V hV; obtain ⟨z1, z2⟩ := HFX.out V hV; clear hV; go_simp; rfl) | refine LeftL.tkN 3 rfl HS.out ?_
    (intro K h; go_simp; refine h _ ?_; clear h K)
    first | (refine LeftL.tkG (v := ?_) 4 rfl HS.out ?_ ?_; rotate_left; · intro V hV; obtain ⟨z1, z2⟩ := HFX.out V hV; clear hV; go_simp; rfl) | refine LeftL.tkN 4 rfl HS.out ?_
    (intro K h; go_simp; refine h _ ?_; clear h K)
    first | (refine LeftL.tkG (v := ?_) 5 rfl HS.out ?_ ?_; rotate_left; · intro V hV; obtain ⟨z1, z2⟩ := HFX.out V hV; clear hV; go_simp; rfl) | refine LeftL.tkN 5 rfl HS.out ?_
    (intro K h; go_simp; refine h _ ?_; clear h K)
    first | (refine LeftL.tkG (v := ?_) 6 rfl HS.out ?_ ?_; rotate_left; · intro V hV; obtain ⟨z1, z2⟩ := HFX.out V hV; clear hV; go_simp; rfl) | refine LeftL.tkN 6 rfl HS.out ?_
    (intro K h; go_simp; refine h _ ?_; clear h K)
    first | (refine LeftL.tkG (v := ?_) 7 rfl HS.out ?_ ?_; rotate_left; · intro V hV; obtain ⟨z1, z2⟩ := HFX.out V hV; clear hV; go_simp; rfl) | refine LeftL.tkN 7 rfl HS.out ?_
    (intro K h; go_simp; refine h _ ?_; clear h K)
    refine LeftL.one 8 rfl (by kernel_rfl) ?_
    go_wp2_with fail
    first | refine ⟨fun _ => HS.out, ?_⟩ | refine ⟨HS.out, ?_⟩
    refine LeftL.done (by kernel_rfl) ?_
    have hf := HF.out.call HS.out HF.out.size (by simp)
    clear HF HS HFX
    have HF := Lib.hid hf
    clear hf
    go_wp2_with fail
    exact ⟨⟨j + 1, by simp [y4, y5], HJL.out, HF.out⟩, by have := HMS.out; simpa [intOf, y4, y5] using this⟩
set_option maxRecDepth 100000 in
set_option maxHeartbeats 8000000 in
theorem refAlike_any (r : Rep) (ad1 ad2 : Option Addr) (b1 o1 cap1 b2 o2 cap2 : Nat) (w : World) (hr1 : RwP w ad1 b1 o1 r.wh.length r.wh) (hr2 : RwP w ad2 b2 o2 r.wh.length r.wh) :
    Calls Try.prog 50 #[.agg (repC r ad1 cap1).toArray, .agg (repC r ad2 cap2).toArray] w fun e w' => e = .returned (.bool true) ∧ Frm w.heap.size [] w w' := by
  have hf0 := Try.func50
  obtain ⟨kind, time, src, abt, wh, souls, trust⟩ := r
  obtain ⟨n, hn⟩ : ∃ c, c = wh.length := ⟨_, rfl⟩
  have e1 : ∀ a c, repC ⟨kind, time, src, abt, wh, souls, trust⟩ a c = [.int .i64 kind, .int .i64 time, .string src, .string abt, .slice a n c, .int .i64 souls, .int .i64 trust] := fun a c => by rw [hn]; rfl
  rw [e1, e1]
  dsimp only at hr1 hr2
  rw [← hn] at hr1 hr2
  have hlen := hr1.len
  have had1 := hr1.ad
  have had2 := hr2.ad
  clear hn e1
  have HR1 := Lib.hid hr1
  have HR2 := Lib.hid hr2
  have HLEN := Lib.hid hlen
  have AD1 := Lib.hid had1
  have AD2 := Lib.hid had2
  clear had2 had1 hlen hr2 hr1
  go_enter Try.func50, Try.ntmps50
  go_upto_region 1 with fail
  refine namedC ?_; intro W hW
  have k0 : Blk W w.heap.size 24 [.int .i64 kind, .int .i64 time, .string src, .string abt, .slice ad1 n cap1, .int .i64 souls, .int .i64 trust] := by rw [hW]; refine Blk.alloc' ?_; exact Blk.new w 24 [.int .i64 kind, .int .i64 time, .string src, .string abt, .slice ad1 n cap1, .int .i64 souls, .int .i64 trust]
  have k1 : Blk W (w.heap.size + 1) 24 [.int .i64 kind, .int .i64 time, .string src, .string abt, .slice ad2 n cap2, .int .i64 souls, .int .i64 trust] := by rw [hW]; exact Blk.new' _ 24 [.int .i64 kind, .int .i64 time, .string src, .string abt, .slice ad2 n cap2, .int .i64 souls, .int .i64 trust] (by simp)
  have hf : Frm w.heap.size [] w W := by rw [hW]; repeat (first | with_reducible exact Frm.refl _ _ _ | with_reducible refine Frm.drewN ?_ | with_reducible refine Frm.drew ?_ | ((with_reducible refine Frm.setCell' ?_ ?_); · first | (left; simp; done) | (right; simp; done) | (right; simp; omega)) | ((with_reducible refine Frm.alloc' ?_ ?_); · first | exact Nat.le_refl _ | (simp; done) | (simp; omega)))
  clear hW hf0
  have c0 : W.cell? ⟨w.heap.size, 0, none⟩ = some (.int .i64 kind) := k0.cell 0
  have c1 : W.cell? ⟨w.heap.size, 1, none⟩ = some (.int .i64 time) := k0.cell 1
  have c2 : W.cell? ⟨w.heap.size, 2, none⟩ = some (.string src) := k0.cell 2
  have c3 : W.cell? ⟨w.heap.size, 3, none⟩ = some (.string abt) := k0.cell 3
  have c4 : W.cell? ⟨w.heap.size, 4, none⟩ = some (.slice ad1 n cap1) := k0.cell 4
  have c5 : W.cell? ⟨w.heap.size, 5, none⟩ = some (.int .i64 souls) := k0.cell 5
  have c6 : W.cell? ⟨w.heap.size, 6, none⟩ = some (.int .i64 trust) := k0.cell 6
  have d0 : W.cell? ⟨w.heap.size + 1, 0, none⟩ = some (.int .i64 kind) := k1.cell 0
  have d1 : W.cell? ⟨w.heap.size + 1, 1, none⟩ = some (.int .i64 time) := k1.cell 1
  have d2 : W.cell? ⟨w.heap.size + 1, 2, none⟩ = some (.string src) := k1.cell 2
  have d3 : W.cell? ⟨w.heap.size + 1, 3, none⟩ = some (.string abt) := k1.cell 3
  have d4 : W.cell? ⟨w.heap.size + 1, 4, none⟩ = some (.slice ad2 n cap2) := k1.cell 4
  have d5 : W.cell? ⟨w.heap.size + 1, 5, none⟩ = some (.int .i64 souls) := k1.cell 5
  have d6 : W.cell? ⟨w.heap.size + 1, 6, none⟩ = some (.int .i64 trust) := k1.cell 6
  have hcc : ∀ V, Frm W.heap.size [] W V → V.cell? ⟨w.heap.size, 4, none⟩ = some (.slice ad1 n cap1) ∧ V.cell? ⟨w.heap.size + 1, 4, none⟩ = some (.slice ad2 n cap2) := fun V hV => ⟨(hV.blk k0 k0.lt (by simp)).cell 4, (hV.blk k1 k1.lt (by simp)).cell 4⟩
  clear k0 k1
  have HF := Lib.hid hf
  have HCC := Lib.hid hcc
  clear hcc hf
  go_wp2_with fail
  clear c0 c1 c2 c3 c4 c5 c6 d0 d1 d2 d3 d4 d5 d6
  go_loopw [5] (fun s5 wr => ∃ j : Nat, s5 = .int .i64 j ∧ j ≤ n ∧ Frm W.heap.size [] W wr) (fun s5 _ => n - (intOf s5).toNat)
  case atStart => exact ⟨0, rfl, Nat.zero_le _, Frm.refl _ _ _⟩
  case round =>
    obtain ⟨j, rfl, hj, hf⟩ := hrel
    obtain ⟨c4, d4⟩ := HCC.out wr hf
    by_cases hjl : j < n
    rotate_left
    · have hjl' : ¬ (j : Int) < (n : Int) := by omega
      obtain rfl : j = n := by omega
      have hff := HF.out.call hf HF.out.size (by simp)
      have HFF := Lib.hid hff
      clear hff
      go_wp2_with fail
      go_ret
      exact ⟨rfl, HFF.out⟩
    have hjl' : (j : Int) < (n : Int) := by omega
    have ad1 := AD1.out (by omega)
    have ad2 := AD2.out (by omega)
    subst ad1
    subst ad2
    obtain ⟨y4, y5⟩ := wrapUp hjl HLEN.out
    have hms := meas_up hjl
    obtain ⟨⟨x, y⟩, hxy⟩ : ∃ p, p = spt wh j := ⟨_, rfl⟩
    have hla : ∀ V, Frm wr.heap.size [] wr V → (loadVar 71 ⟨b1, o1 + j * 2, none⟩).run Try.prog V = .ok (.agg #[.int .i64 x, .int .i64 y]) V := fun V hV => by
      have := (HR1.out.frm (HF.out.call (hf.call hV hf.size (by simp)) HF.out.size (by simp)) (Nat.le_refl _)).load (P := Try.prog) Try.underlying71 rfl hjl (info71s _)
      rw [← hxy] at this; exact this
    have hlb : ∀ V, Frm wr.heap.size [] wr V → (loadVar 71 ⟨b2, o2 + j * 2, none⟩).run Try.prog V = .ok (.agg #[.int .i64 x, .int .i64 y]) V := fun V hV => by
      have := (HR2.out.frm (HF.out.call (hf.call hV hf.size (by simp)) HF.out.size (by simp)) (Nat.le_refl _)).load (P := Try.prog) Try.underlying71 rfl hjl (info71s _)
      rw [← hxy] at this; exact this
    have hfx : ∀ V, Frm wr.heap.size [] wr V → V.cell? ⟨w.heap.size, 4, none⟩ = some (.slice (some ⟨b1, o1, none⟩) n cap1) ∧ V.cell? ⟨w.heap.size + 1, 4, none⟩ = some (.slice (some ⟨b2, o2, none⟩) n cap2) := fun V hV => HCC.out V (hf.call hV hf.size (by simp))
    clear hxy
    have HFR := Lib.hid hf
    have HFX := Lib.hid hfx
    have HMS := Lib.hid hms
    have HJL := Lib.hid hjl
    have HLA := Lib.hid hla
    have HLB := Lib.hid hlb
    clear hlb hla hjl hms hfx hf
    go_upto_region 6 with fail
    clear c4 d4
    refine wp_region_leftL (fun V => Frm wr.heap.size [] wr V) 1000 (by kernel_rfl) ?_
    have hS : Frm wr.heap.size [] wr wr.drew := (Frm.refl _ _ wr).drew
    have HS := Lib.hid hS
    clear hS
    first | (refine LeftL.tkG (v := ?_) 0 rfl HS.out ?_ ?_; rotate_left; · intro V hV; obtain ⟨z1, z2⟩ := HFX.out V hV; clear hV; go_simp; rfl) | refine LeftL.tkN 0 rfl HS.out ?_
    (intro K h; go_simp; refine h _ ?_; clear h K)
    first | (refine LeftL.tkG (v := ?_) 1 rfl HS.out ?_ ?_; rotate_left; · intro V hV; obtain ⟨z1, z2⟩ := HFX.out V hV; clear hV; go_simp; rfl) | refine LeftL.tkN 1 rfl HS.out ?_
    (intro K h; go_simp; refine h _ ?_; clear h K)
    first | (refine LeftL.tkG (v := ?_) 2 rfl HS.out ?_ ?_; rotate_left; · intro V hV; obtain ⟨z1, z2⟩ := HFX.out V hV; clear hV; go_simp; rfl) | refine LeftL.tkN 2 rfl HS.out ?_
    (intro K h; go_simp; refine h _ ?_; clear h K)
    first | (refine LeftL.tkG (v := ?_) 3 rfl HS.out ?_ ?_; rotate_left; · intro V hV; obtain ⟨z1, z2⟩ := HFX.out V hV; clear hV; go_simp; rfl) | refine LeftL.tkN 3 rfl HS.out ?_
    (intro K h; go_simp; refine h _ ?_; clear h K)
    refine LeftL.take 4 rfl (by kernel_rfl) (fun _ _ d _ _ h => by cases d <;> exact h) (yields_loadE (ty := 71) rfl rfl rfl (HLA.out)) HS.out ?_; (intro K' hK'; go_simp; refine hK' _ ?_; clear hK' K')
    first | (refine LeftL.tkG (v := ?_) 5 rfl HS.out ?_ ?_; rotate_left; · intro V hV; obtain ⟨z1, z2⟩ := HFX.out V hV; clear hV; go_simp; rfl) | refine LeftL.tkN 5 rfl HS.out ?_
    (intro K h; go_simp; refine h _ ?_; clear h K)
    first | (refine LeftL.tkG (v := ?_) 6 rfl HS.out ?_ ?_; rotate_left; · intro V hV; obtain ⟨z1, z2⟩ := HFX.out V hV; clear hV; go_simp; rfl) | refine LeftL.tkN 6 rfl HS.out ?_
    (intro K h; go_simp; refine h _ ?_; clear h K)
    first | (refine LeftL.tkG (v := ?_) 7 rfl HS.out ?_ ?_; rotate_left; · intro V hV; obtain ⟨z1, z2⟩ := HFX.out V hV; clear hV; go_simp; rfl) | refine LeftL.tkN 7 rfl HS.out ?_
    (intro K h; go_simp; refine h _ ?_; clear h K)
    first | (refine LeftL.tkG (v := ?_) 8 rfl HS.out ?_ ?_; rotate_left; · intro V hV; obtain ⟨z1, z2⟩ := HFX.out V hV; clear hV; go_simp; rfl) | refine LeftL.tkN 8 rfl HS.out ?_
    (intro K h; go_simp; refine h _ ?_; clear h K)
    refine LeftL.take 9 rfl (by kernel_rfl) (fun _ _ d _ _ h => by cases d <;> exact h) (yields_loadE (ty := 71) rfl rfl rfl (HLB.out)) HS.out ?_; (intro K' hK'; go_simp; refine hK' _ ?_; clear hK' K')
    refine LeftL.one 10 rfl (by kernel_rfl) ?_
    go_wp2_with fail
    first | refine ⟨fun _ => HS.out, ?_⟩ | refine ⟨HS.out, ?_⟩
    refine LeftL.done (by kernel_rfl) ?_
    have hf := HFR.out.call HS.out HFR.out.size (by simp)
    clear HFR HS HFX HLA HLB
    have HFR := Lib.hid hf
    clear hf
    go_wp2_with fail
    exact ⟨⟨j + 1, by simp [y4, y5], HJL.out, HFR.out⟩, by have := HMS.out; simpa [intOf, y4, y5] using this⟩
end Go.Proofs.Ythgmdilfmeefiaa
