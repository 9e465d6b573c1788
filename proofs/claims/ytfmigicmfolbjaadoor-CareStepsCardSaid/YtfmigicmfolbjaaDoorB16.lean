/-
  Texts S23, S24 of this claim, one behind the other.
-/
import Derived.Test.YtfmigicmfolbjaaDoorB15
namespace Go.Proofs.YtfmigicmfolbjaaDoor
set_option linter.all false
set_option linter.unusedSimpArgs false
set_option linter.unusedVariables false
open Go.RowKit Go.Shelf

theorem results_3c {fn : Func} {p q r : Tmp} (h : fn.results = #[.cell p 3, .cell q 3, .cell r 27]) {tmps : Array Value} {w : World} {b2 b3 b4 E2 E3 E4 : Nat} {x y z : Value} (h2 : Blk w b2 E2 [x]) (h3 : Blk w b3 E3 [y]) (h4 : Blk w b4 E4 [z])
    (hp : tmps.getD p undef = .pointer (some ⟨b2, 0, none⟩)) (hq : tmps.getD q undef = .pointer (some ⟨b3, 0, none⟩)) (hr : tmps.getD r undef = .pointer (some ⟨b4, 0, none⟩)) :
    (results fn tmps).run Tryd.prog w = .ok (.tuple #[x, y, z]) w := by
  have hp' : tmps[p]?.getD undef = .pointer (some ⟨b2, 0, none⟩) := by simpa using hp
  have hq' : tmps[q]?.getD undef = .pointer (some ⟨b3, 0, none⟩) := by simpa using hq
  have hr' : tmps[r]?.getD undef = .pointer (some ⟨b4, 0, none⟩) := by simpa using hr
  have c2 : w.cell? ⟨b2, 0, none⟩ = some x := h2.cell 0
  have c3 : w.cell? ⟨b3, 0, none⟩ = some y := h3.cell 0
  have c4 : w.cell? ⟨b4, 0, none⟩ = some z := h4.cell 0
  simp [results, h, hp', hq', hr', go_sem, c2, c3, c4]
theorem named_leaves {F : Fence} {n : Nat} {P : Program} {fn : Func} {tmps : Array Value} {R : Ending → World → Prop} {ds : List Deferred} {u : FrameMode} {w : World} (h : ∀ W, W = w → LeavesInM F n P fn tmps R ds u W) : LeavesInM F n P fn tmps R ds u w := h w rfl
set_option maxRecDepth 100000 in
set_option maxHeartbeats 16000000 in
theorem sound_any (q : RPos) (R : Raw) (w : World) (hr : RawAt w q R) (hg : Glob w) :
    Calls Tryd.prog 34 #[.agg (rawC q R).toArray] w fun e w' => SoundIs R e ∧ Frm w.heap.size [] w w' := by
  have hf0 := Tryd.func34
  refine (callsIn_wide (n := 1)).1 ?_
  refine callsIn_of_wp_marks Tryd.func34 rfl trivial ?_ rfl
  simp only [Tryd.ntmps34, List.size_toArray, List.length_cons, List.length_nil, Nat.reduceAdd, Nat.reduceSub, Array.replicate_succ, Array.replicate_zero, List.push_toArray, List.append_toArray, List.nil_append, List.cons_append]
  refine wpIn_mono (Q := retOnly _) ?_ retOnly_le
  refine wpIn_wide.2 ?_
  have HR := Lib.hid hr
  have HG := Lib.hid hg
  clear hg hr
  go_upto_region 1 with fail
  refine namedC ?_; intro W hW
  obtain ⟨c, hc⟩ : ∃ c, c = w.heap.size := ⟨_, rfl⟩
  have k0 : Blk W c 66 (rawC q R) := by rw [hW, hc]; refine Blk.alloc' ?_; refine Blk.alloc' ?_; refine Blk.alloc' ?_; exact Blk.new w 66 (rawC q R)
  have k2 : Blk W (c + 1) 3 [.int .i64 0] := by rw [hW, hc]; refine Blk.alloc' ?_; refine Blk.alloc' ?_; exact Blk.new' _ 3 [.int .i64 0] (by simp)
  have k3 : Blk W (c + 1 + 1) 3 [.int .i64 0] := by rw [hW, hc]; refine Blk.alloc' ?_; exact Blk.new' _ 3 [.int .i64 0] (by simp)
  have k4 : Blk W (c + 1 + 1 + 1) 27 [.int .i64 0] := by rw [hW, hc]; exact Blk.new' _ 27 [.int .i64 0] (by simp)
  have hfw : Frm w.heap.size [] w W := by rw [hW]; repeat (first | with_reducible exact Frm.refl _ _ _ | with_reducible refine Frm.drewN ?_ | with_reducible refine Frm.drew ?_ | ((with_reducible refine Frm.setCell' ?_ ?_); · first | (left; simp; done) | (right; simp; done) | (right; simp; omega)) | ((with_reducible refine Frm.alloc' ?_ ?_); · first | exact Nat.le_refl _ | (simp; done) | (simp; omega)))
  clear hW hf0
  rw [← hc]
  obtain ⟨r2, hr2⟩ : ∃ r, r = c + 1 := ⟨_, rfl⟩
  obtain ⟨r3, hr3⟩ : ∃ r, r = c + 1 + 1 := ⟨_, rfl⟩
  obtain ⟨r4, hr4⟩ : ∃ r, r = c + 1 + 1 + 1 := ⟨_, rfl⟩
  rw [← hr2] at k2
  rw [← hr3] at k3
  rw [← hr4] at k4
  simp only [← hr4]
  simp only [← hr3]
  simp only [← hr2]
  have n23 : r2 ≠ r3 := by omega
  have n24 : r2 ≠ r4 := by omega
  have n34 : r3 ≠ r4 := by omega
  have l2 : w.heap.size ≤ r2 := by omega
  have l3 : w.heap.size ≤ r3 := by omega
  have l4 : w.heap.size ≤ r4 := by omega
  clear hr2 hr3 hr4
  have K0 := Lib.hid k0
  have K2 := Lib.hid k2
  have K3 := Lib.hid k3
  have K4 := Lib.hid k4
  have HF := Lib.hid hfw
  have HC := Lib.hid hc
  have N23 := Lib.hid n23
  have N24 := Lib.hid n24
  have N34 := Lib.hid n34
  have L2 := Lib.hid l2
  have L3 := Lib.hid l3
  have L4 := Lib.hid l4
  clear l4 l3 l2 n34 n24 n23 hc hfw k4 k3 k2 k0
  go_wp2_with (with_reducible refine atLoad 66 rfl ?_; refine wpList_loadE rfl rfl rfl (load_raw K0.out) ?_)
  refine (planned_any q R W (HR.out.frm HF.out (Nat.le_refl _)) (HG.out.frm HF.out (Nat.le_refl _))).mono ?_; rintro e w1 ⟨hf1, hpl⟩
  have hfw := HF.out.call hf1 HF.out.size (by simp)
  have k2 := hf1.blk K2.out K2.out.lt (by simp)
  have k3 := hf1.blk K3.out K3.out.lt (by simp)
  have k4 := hf1.blk K4.out K4.out.lt (by simp)
  clear hf1 HF K0 K2 K3 K4
  unfold PlannedIs at hpl
  cases hP : plannedO R with
  | none =>
    rw [hP] at hpl
    obtain rfl := hpl
    have m2 : w1.cell? ⟨r2, 0, none⟩ = some (.int .i64 0) := k2.cell 0
    have m3 : w1.cell? ⟨r3, 0, none⟩ = some (.int .i64 0) := k3.cell 0
    have m4 : w1.cell? ⟨r4, 0, none⟩ = some (.int .i64 0) := k4.cell 0
    have f2 := k2.free 0
    have f3 := k3.free 0
    have f4 := k4.free 0
    have n23 := N23.out
    have n24 := N24.out
    have n34 := N34.out
    have n32 := Ne.symm n23
    have n42 := Ne.symm n24
    have n43 := Ne.symm n34
    have z2 := k2.lt
    have z3 := k3.lt
    have z4 := k4.lt
    have z2' : ¬ r2 = w1.heap.size := by omega
    have z3' : ¬ r3 = w1.heap.size := by omega
    have z4' : ¬ r4 = w1.heap.size := by omega
    have HF := Lib.hid hfw
    have K2 := Lib.hid k2
    have K3 := Lib.hid k3
    have K4 := Lib.hid k4
    have HP := Lib.hid hP
    clear hP k4 k3 k2 hfw
    go_wp2_with fail
    refine named_leaves ?_; intro W9 hW9
    have y2 : Blk W9 r2 3 [.int .i64 (-1)] := by rw [hW9]; refine Blk.alloc' ?_; exact ((K2.out.set 0 _).other ⟨r3, 0, none⟩ n32 _).other ⟨r4, 0, none⟩ n42 _
    have y3 : Blk W9 r3 3 [.int .i64 (-1)] := by rw [hW9]; refine Blk.alloc' ?_; exact ((K3.out.other ⟨r2, 0, none⟩ n23 _).set 0 _).other ⟨r4, 0, none⟩ n43 _
    have y4 : Blk W9 r4 27 [.int .i64 2] := by rw [hW9]; refine Blk.alloc' ?_; exact ((K4.out.other ⟨r2, 0, none⟩ n24 _).other ⟨r3, 0, none⟩ n34 _).set 0 _
    have hf9 : Frm w.heap.size [] w W9 := by
      have l2 := L2.out; have l3 := L3.out; have l4 := L4.out
      rw [hW9]
      refine Frm.alloc' (by simpa using HF.out.size) ?_
      exact ((HF.out.setCell (p := ⟨r2, 0, none⟩) (.inr l2) _).setCell (p := ⟨r3, 0, none⟩) (.inr l3) _).setCell (p := ⟨r4, 0, none⟩) (.inr l4) _
    refine ⟨_, results_3c Tryd.results34 y2 y3 y4 rfl rfl rfl, ?_⟩
    exact ⟨by unfold SoundIs; rw [HP.out], hf9⟩
  | some P =>
    rw [hP] at hpl
    obtain ⟨pb, q', rfl, hpa⟩ := hpl
    have hok := planned_ok hP
    obtain ⟨n, hn⟩ : ∃ n, n = P.n := ⟨_, rfl⟩
    have HF := Lib.hid hfw
    have K2 := Lib.hid k2
    have K3 := Lib.hid k3
    have K4 := Lib.hid k4
    have HP := Lib.hid hP
    have HPA := Lib.hid hpa
    have HOK := Lib.hid hok
    have HN := Lib.hid hn
    clear hn hok hpa hP k4 k3 k2 hfw
    go_upto_region 4 with fail
    refine namedC ?_; intro W2 hW2
    obtain ⟨p5, hp5⟩ : ∃ p, p = w1.heap.size := ⟨_, rfl⟩
    have k5 : Blk W2 p5 108 [.pointer (some ⟨pb, 0, none⟩)] := by rw [hW2, hp5]; exact Blk.new w1 108 [.pointer (some ⟨pb, 0, none⟩)]
    have hf2 : Frm w1.heap.size [] w1 W2 := by rw [hW2]; repeat (first | with_reducible exact Frm.refl _ _ _ | with_reducible refine Frm.drewN ?_ | with_reducible refine Frm.drew ?_ | ((with_reducible refine Frm.setCell' ?_ ?_); · first | (left; simp; done) | (right; simp; done) | (right; simp; omega)) | ((with_reducible refine Frm.alloc' ?_ ?_); · first | exact Nat.le_refl _ | (simp; done) | (simp; omega)))
    simp only [← hp5]
    have hfw := HF.out.call hf2 HF.out.size (by simp)
    have k2 := hf2.blk K2.out K2.out.lt (by simp)
    have k3 := hf2.blk K3.out K3.out.lt (by simp)
    have k4 := hf2.blk K4.out K4.out.lt (by simp)
    have hpa := HPA.out.frm hf2 (Nat.le_refl _)
    have c5 : W2.cell? ⟨p5, 0, none⟩ = some (.pointer (some ⟨pb, 0, none⟩)) := k5.cell 0
    have cb : W2.cell? ⟨pb, 1, none⟩ = some (.slice q'.a1 n q'.c1) := by rw [HN.out]; exact hpa.box.cell 1
    clear hf2 hW2 hp5 HF K2 K3 K4 HPA
    have HF := Lib.hid hfw
    have K2 := Lib.hid k2
    have K3 := Lib.hid k3
    have K4 := Lib.hid k4
    have HPA := Lib.hid hpa
    have K5 := Lib.hid k5
    clear k5 hpa k4 k3 k2 hfw
    go_wp2_with fail
    refine Code.wp_mono (fun e a w h => NoP.out e a w h) (sound_loop n pb p5 r2 r3 r4 q' P HOK.out HN.out w W2 HG.out HF.out HPA.out K5.out K2.out K3.out K4.out L2.out L3.out L4.out N23.out N24.out N34.out _ _ _ _ _ _ _ _ _ _ _ _ _ _ _ _ _ _ _ _ _ _ _ _ _ _ _ _ _ _ _ _ _ _ _ _ _ _ _ _ _ _ _ _ _ _ _ _ _ _ _ _ _ _ ?_ ?_)
    · intro i f hso u7 u8 u9 u10 u23 u24 u25 u26 u27 u28 u29 u30 u31 u32 u33 u34 u35 u36 u37 u38 u39 u40 u41 u42 u43 u44 u45 u46 u47 u48 u49 u50 u51 u52 u53 u54 u55 u56 u57 u58 u59 ds w' hf k2 k3 k4 hmk
      dsimp only [Exit.inBlock, Exit.then]
      refine leaves_marks hmk (fun w'' hbk hf2 => ?_)
      have z2 := hbk _ _ _ k2
      have z3 := hbk _ _ _ k3
      have z4 := hbk _ _ _ k4
      clear hbk k2 k3 k4
      refine ⟨_, results_3c Tryd.results34 z2 z3 z4 rfl rfl rfl, ?_⟩
      exact ⟨by unfold SoundIs; rw [HP.out]; dsimp only; rw [hso], hf.trans hf2⟩
    intro hso u7 u8 u9 u10 u23 u24 u25 u26 u27 u28 u29 u30 u31 u32 u33 u34 u35 u36 u37 u38 u39 u40 u41 u42 u43 u44 u45 u46 u47 u48 u49 u50 u51 u52 u53 u54 u55 u56 u57 u58 u59 ds w3 hf3 hmk
    have hfw := HF.out.call hf3 HF.out.size (by simp)
    have k2 := hf3.blk K2.out K2.out.lt (by simp)
    have k3 := hf3.blk K3.out K3.out.lt (by simp)
    have k4 := hf3.blk K4.out K4.out.lt (by simp)
    have m2 : w3.cell? ⟨r2, 0, none⟩ = some (.int .i64 0) := k2.cell 0
    have m3 : w3.cell? ⟨r3, 0, none⟩ = some (.int .i64 0) := k3.cell 0
    have m4 : w3.cell? ⟨r4, 0, none⟩ = some (.int .i64 0) := k4.cell 0
    have f2 := k2.free 0
    have f3 := k3.free 0
    have f4 := k4.free 0
    have n23 := N23.out
    have n24 := N24.out
    have n34 := N34.out
    have n32 := Ne.symm n23
    have n42 := Ne.symm n24
    have n43 := Ne.symm n34
    clear hf3 HF K2 K3 K4 c5 cb
    have HF := Lib.hid hfw
    have K2 := Lib.hid k2
    have K3 := Lib.hid k3
    have K4 := Lib.hid k4
    have HMK := Lib.hid hmk
    have HSO := Lib.hid hso
    clear hso hmk k4 k3 k2 hfw
    dsimp only [Exit.inBlock, Exit.then]
    go_wp2_with fail
    refine named_leaves ?_; intro W9 hW9
    have y2 : Blk W9 r2 3 [.int .i64 (-1)] := by rw [hW9]; exact ((K2.out.set 0 _).other ⟨r3, 0, none⟩ n32 _).other ⟨r4, 0, none⟩ n42 _
    have y3 : Blk W9 r3 3 [.int .i64 (-1)] := by rw [hW9]; exact ((K3.out.other ⟨r2, 0, none⟩ n23 _).set 0 _).other ⟨r4, 0, none⟩ n43 _
    have y4 : Blk W9 r4 27 [.int .i64 0] := by rw [hW9]; exact ((K4.out.other ⟨r2, 0, none⟩ n24 _).other ⟨r3, 0, none⟩ n34 _).set 0 _
    have hf39 : Frm w3.heap.size [r2, r3, r4] w3 W9 := by
      rw [hW9]
      exact (((Frm.refl _ _ w3).setCell (p := ⟨r2, 0, none⟩) (.inl (by simp)) _).setCell (p := ⟨r3, 0, none⟩) (.inl (by simp)) _).setCell (p := ⟨r4, 0, none⟩) (.inl (by simp)) _
    have hmk9 := HMK.out.frm hf39 (Nat.le_refl _) (fun x hx r hr => by
      simp at hx
      rcases hx with rfl | rfl | rfl
      · exact blk_ne K2.out hr
      · exact blk_ne K3.out hr
      · exact blk_ne K4.out hr)
    have hf9 : Frm w.heap.size [] w W9 := HF.out.call hf39 HF.out.size (fun x hx hm => by have := L2.out; have := L3.out; have := L4.out; simp at hm; omega)
    refine leaves_marks hmk9 (fun w'' hbk hf2 => ?_)
    have z2 := hbk _ _ _ y2
    have z3 := hbk _ _ _ y3
    have z4 := hbk _ _ _ y4
    clear hbk y2 y3 y4 hW9
    refine ⟨_, results_3c Tryd.results34 z2 z3 z4 rfl rfl rfl, ?_⟩
    exact ⟨by unfold SoundIs; rw [HP.out]; dsimp only; rw [HSO.out], hf9.trans hf2⟩
end Go.Proofs.YtfmigicmfolbjaaDoor

namespace Go.Proofs.YtfmigicmfolbjaaDoor
set_option linter.all false
set_option linter.unusedSimpArgs false
set_option linter.unusedVariables false
open Go.RowKit Go.Shelf

def readyN (P : PL) (dn k : Nat) : Bool := !dn.testBit k && decide (andN (P.before k) dn = 0)
def nextN (P : PL) (dn : Nat) : Option Nat := (List.range P.n).find? (readyN P dn)
def rowS (P : PL) : Nat → List Nat × Nat
  | 0 => ([], 0)
  | t + 1 => match nextN P (rowS P t).2 with
    | none => rowS P t
    | some k => ((rowS P t).1 ++ [k], (rowS P t).2 ||| 1 <<< k)
theorem find_range {p : Nat → Bool} {n k : Nat} (hk : k < n) (h1 : ∀ j, j < k → p j = false) (h2 : p k = true) : (List.range n).find? p = some k := by
  have := find_at (p := p) (List.range n) k (by simpa using hk) (fun j hj => by
    have : (List.range n).getD j 0 = j := by simp [List.getD_eq_getElem?_getD, show j < n by omega]
    rw [this]; exact h1 j hj) (by
    have : (List.range n).getD k 0 = k := by simp [List.getD_eq_getElem?_getD, hk]
    rw [this]; exact h2)
  rw [this]
  simp [List.getD_eq_getElem?_getD, hk]
theorem find_range_no {p : Nat → Bool} {n : Nat} (h : ∀ j, j < n → p j = false) : (List.range n).find? p = none := by
  rw [List.find?_eq_none]
  intro x hx
  rw [h x (by simpa using hx)]
  simp
theorem nextN_lt {P : PL} {dn k : Nat} (h : nextN P dn = some k) : k < P.n := by
  have := List.mem_of_find?_eq_some h
  simpa using this
theorem rowS_ok (P : PL) : ∀ t, (rowS P t).1.length ≤ t ∧ (rowS P t).2 < 2 ^ P.n
  | 0 => ⟨Nat.le_refl _, Nat.pow_pos (by omega)⟩
  | t + 1 => by
    have ih := rowS_ok P t
    unfold rowS
    split
    · exact ⟨by omega, ih.2⟩
    · rename_i k hk
      refine ⟨by simp; omega, Nat.or_lt_two_pow ih.2 ?_⟩
      rw [Nat.shiftLeft_eq, Nat.one_mul]
      exact Nat.pow_lt_pow_right (by omega) (nextN_lt hk)
def rowL (P : PL) : List Nat := (rowS P P.n).1
def RowIs (R : Raw) (w w' : World) (e : Ending) : Prop := match plannedO R with
  | none => e = .returned (.tuple #[.slice none 0 0, .int .i64 2])
  | some P => ∃ v own, e = .returned (.tuple #[v, .int .i64 0]) ∧ Sl w' 3 1 v (rowL P).length (intsC (rowL P)) own ∧ ∀ b, own = some b → w.heap.size ≤ b
set_option maxRecDepth 100000 in
set_option maxHeartbeats 16000000 in
theorem row_any (q : RPos) (R : Raw) (w : World) (hr : RawAt w q R) (hg : Glob w) :
    Calls Tryd.prog 38 #[.agg (rawC q R).toArray] w fun e w' => RowIs R w w' e ∧ Frm w.heap.size [] w w' := by
  have hf0 := Tryd.func38
  obtain ⟨i0, hi0⟩ : ∃ i0, Tryd.prog.info? 3 = some i0 := ⟨_, rfl⟩
  have hzz : i0.zero = some (.int .i64 0) ∧ i0.size = 1 ∧ i0.bytes = 8 := by cases hi0; exact ⟨rfl, rfl, rfl⟩
  obtain ⟨hz0, hz1, hz2⟩ := hzz
  have HR := Lib.hid hr
  have HG := Lib.hid hg
  have HI0 := Lib.hid hi0
  have HZ0 := Lib.hid hz0
  have HZ1 := Lib.hid hz1
  have HZ2 := Lib.hid hz2
  clear hz2 hz1 hz0 hi0 hg hr
  go_enter Tryd.func38, Tryd.ntmps38
  go_upto_region 1 with fail
  refine namedC ?_; intro W hW
  have hb : Blk W w.heap.size 66 (rawC q R) := by rw [hW]; exact Blk.new w 66 (rawC q R)
  have hf : Frm w.heap.size [] w W := by rw [hW]; repeat (first | with_reducible exact Frm.refl _ _ _ | with_reducible refine Frm.drewN ?_ | with_reducible refine Frm.drew ?_ | ((with_reducible refine Frm.setCell' ?_ ?_); · first | (left; simp; done) | (right; simp; done) | (right; simp; omega)) | ((with_reducible refine Frm.alloc' ?_ ?_); · first | exact Nat.le_refl _ | (simp; done) | (simp; omega)))
  clear hW hf0
  obtain ⟨c, hc⟩ : ∃ c, c = w.heap.size := ⟨_, rfl⟩
  rw [← hc] at hb ⊢
  have HB := Lib.hid hb
  have HF := Lib.hid hf
  have HC := Lib.hid hc
  clear hc hf hb
  go_wp2_with (with_reducible refine atLoad 66 rfl ?_; refine wpList_loadE rfl rfl rfl (load_raw HB.out) ?_)
  refine (planned_any q R W (HR.out.frm HF.out (Nat.le_refl _)) (HG.out.frm HF.out (Nat.le_refl _))).mono ?_; rintro e w1 ⟨hf1, hpl⟩
  have hf := HF.out.call hf1 HF.out.size (by simp)
  clear hf1 HF HB
  unfold PlannedIs at hpl
  cases hP : plannedO R with
  | none =>
    rw [hP] at hpl
    obtain rfl := hpl
    have HF := Lib.hid hf
    have HP := Lib.hid hP
    clear hP hf
    go_wp2_with fail
    refine bodyPost_ret (v := .tuple #[.slice none 0 0, .int .i64 2]) (by simp [results, Tryd.results38, go_sem]) rfl ?_
    exact ⟨by unfold RowIs; rw [HP.out], HF.out⟩
  | some P =>
    rw [hP] at hpl
    obtain ⟨pb, ⟨a1, b1, o1, c1, a2, b2, o2, c2, a3, b3, o3, c3⟩, rfl, hpa⟩ := hpl
    have hok := planned_ok hP
    obtain ⟨n, hn⟩ : ∃ n, n = P.n := ⟨_, rfl⟩
    have hn12 : n ≤ 12 := by rw [hn]; exact hok.n
    have hlen : n ≤ maxLen := by unfold maxLen; omega
    have hcb : ∀ V, Frm w1.heap.size [] w1 V → V.cell? ⟨pb, 1, none⟩ = some (.slice a1 n c1) ∧ V.cell? ⟨pb, 2, none⟩ = some (.slice a2 n c2) ∧ ∀ k, k < n → a2 = some ⟨b2, o2, none⟩ ∧ V.cell? ⟨b2, o2 + k, none⟩ = some (.int .u32 (P.before k : Int)) := fun V hV => by
      have h := hpa.frm hV (Nat.le_refl _)
      have e : n = P.n := hn
      refine ⟨?_, ?_, fun k hk => ⟨h.bef.ad (by omega), h.bef.cell1 (by omega)⟩⟩
      · rw [e]; exact h.box.cell 1
      · rw [e]; exact h.box.cell 2
    obtain ⟨d1, d2, _⟩ := hcb w1 (Frm.refl _ _ _)
    have HF := Lib.hid hf
    have HP := Lib.hid hP
    have HPA := Lib.hid hpa
    have HOK := Lib.hid hok
    have HN := Lib.hid hn
    have HN12 := Lib.hid hn12
    have HLEN := Lib.hid hlen
    have HCB := Lib.hid hcb
    clear hcb hlen hn12 hn hok hpa hP hf
    go_wp2_with fail
    clear d1 d2
    go_loopw [6, 7, 22] (fun s6 s7 s22 wr => ∃ t : Nat, s22 = .int .i64 t ∧ t ≤ n ∧ s7 = .int .u32 (((rowS P t).2 : Nat) : Int) ∧ (∃ own, Sl wr 3 1 s6 (rowS P t).1.length (intsC (rowS P t).1) own ∧ ∀ b, own = some b → w1.heap.size ≤ b) ∧ Frm w1.heap.size [] w1 wr) (fun _ _ s22 _ => n - (intOf s22).toNat)
    case atStart => exact ⟨0, rfl, Nat.zero_le _, rfl, ⟨none, Sl.nil _ _ _, fun b hb => by cases hb⟩, Frm.refl _ _ _⟩
    case round =>
      obtain ⟨t, rfl, ht, rfl, ⟨own, hsl, hown⟩, hfr⟩ := hrel
      obtain ⟨ad, cp, rfl⟩ := hsl.form
      by_cases htn : t < n
      · have htn' : (t : Int) < (n : Int) := by omega
        have hms := meas_up htn
        have hok2 := rowS_ok P t
        obtain ⟨w4x, w5x⟩ := wrapUp htn HLEN.out
        obtain ⟨l, hl⟩ : ∃ l, l = (rowS P t).1 := ⟨_, rfl⟩
        obtain ⟨dn, hdn⟩ : ∃ l, l = (rowS P t).2 := ⟨_, rfl⟩
        have hnx : rowS P (t + 1) = match nextN P dn with | none => (l, dn) | some k => (l ++ [k], dn ||| 1 <<< k) := by
          rw [rowS, hdn, hl]
        rw [← hl] at hsl hok2 ⊢
        rw [← hdn] at hok2 ⊢
        obtain ⟨j, hj⟩ : ∃ j, j = l.length := ⟨_, rfl⟩
        rw [← hj] at hsl hok2 ⊢
        have hdn32 : dn < 4294967296 := Nat.lt_of_lt_of_le hok2.2 (Nat.pow_le_pow_right (n := 2) (i := P.n) (j := 32) (by omega) (by have := HOK.out.n; omega))
        obtain ⟨d1, d2, _⟩ := HCB.out wr hfr
        have HSL := Lib.hid hsl
        have HOWN := Lib.hid hown
        have HFR := Lib.hid hfr
        have HTN := Lib.hid htn
        have HMS := Lib.hid hms
        have HOK2 := Lib.hid hok2
        have HL := Lib.hid hl
        have HDN := Lib.hid hdn
        have HNX := Lib.hid hnx
        have HJ := Lib.hid hj
        have HDN32 := Lib.hid hdn32
        clear hdn32 hj hnx hdn hl hok2 hms htn hfr hown hsl
        go_wp2_with fail
        clear d1 d2
        go_loopw [6, 7, 29] (fun s6 s7 s29 wr => ∃ k : Nat, s29 = .int .i64 k ∧ k ≤ n ∧ s6 = .slice ad j cp ∧ s7 = .int .u32 (dn : Int) ∧ (∀ i, i < k → readyN P dn i = false) ∧ Sl wr 3 1 (.slice ad j cp) j (intsC l) own ∧ Frm w1.heap.size [] w1 wr) (fun _ _ s29 _ => n - (intOf s29).toNat)
        case atStart => exact ⟨0, rfl, Nat.zero_le _, rfl, rfl, fun i hi => by omega, HSL.out, HFR.out⟩
        case round =>
          clear HSL HFR
          obtain ⟨k, rfl, hk, rfl, rfl, hno, hsl, hfr⟩ := hrel
          by_cases hkn : k < n
          · have hkn' : (k : Int) < (n : Int) := by omega
            have hms2 := meas_up hkn
            obtain ⟨x4x, x5x⟩ := wrapUp hkn HLEN.out
            obtain ⟨_, _, hcc⟩ := HCB.out wr hfr
            obtain ⟨had, hck⟩ := hcc k hkn
            subst had
            clear hcc
            obtain ⟨bk, hbk⟩ : ∃ b, b = P.before k := ⟨_, rfl⟩
            rw [← hbk] at hck
            have hb32 : bk < 4294967296 := by rw [hbk]; exact Nat.lt_of_lt_of_le (HOK.out.before k (by have := HN.out; omega)) (Nat.pow_le_pow_right (n := 2) (i := P.n) (j := 32) (by omega) (by have := HOK.out.n; omega))
            have hand := andNot_u32 hb32 HDN32.out
            have hrd : readyN P dn k = (!dn.testBit k && decide (andN bk dn = 0)) := by rw [hbk]; rfl
            obtain ⟨an, han⟩ : ∃ a, a = andN bk dn := ⟨_, rfl⟩
            rw [← han] at hand hrd
            cases hts : dn.testBit k
            rotate_left
            · have hrf : readyN P dn k = false := by rw [hrd, hts]; rfl
              have hno2 : ∀ i, i < k + 1 → readyN P dn i = false := fun i hi => by
                rcases Nat.lt_or_ge i k with h | h
                · exact hno i h
                · obtain rfl : i = k := by omega
                  exact hrf
              have hfin : ∃ k' : Nat, Value.int .i64 ((k : Int) + 1) = .int .i64 k' ∧ k' ≤ n ∧ Value.slice ad j cp = .slice ad j cp ∧ Value.int .u32 (dn : Int) = .int .u32 (dn : Int) ∧ (∀ i, i < k' → readyN P dn i = false) ∧ Sl wr 3 1 (.slice ad j cp) j (intsC l) own ∧ Frm w1.heap.size [] w1 wr :=
                ⟨k + 1, by simp, hkn, rfl, rfl, hno2, hsl, hfr⟩
              clear hno hsl hfr hno2 hrf hand
              have HFIN := Lib.hid hfin
              have HMS2 := Lib.hid hms2
              have HTS := Lib.hid hts
              have HRD := Lib.hid hrd
              have HKN := Lib.hid hkn
              have HAN := Lib.hid han
              have HBK := Lib.hid hbk
              clear hbk han hkn hrd hts hms2 hfin
              go_wp2_with (go_at_call 73; refine (hasS_any dn k HDN32.out (by have := HKN.out; have := HN12.out; omega) _).mono ?_; rintro e w' ⟨rfl, rfl⟩; rw [HTS.out])
              (try simp only [x4x, x5x])
              exact ⟨HFIN.out, HMS2.out⟩
            by_cases ha0 : an = 0
            rotate_left
            · have hrf : readyN P dn k = false := by rw [hrd, hts]; simp [ha0]
              have hno2 : ∀ i, i < k + 1 → readyN P dn i = false := fun i hi => by
                rcases Nat.lt_or_ge i k with h | h
                · exact hno i h
                · obtain rfl : i = k := by omega
                  exact hrf
              have hfin : ∃ k' : Nat, Value.int .i64 ((k : Int) + 1) = .int .i64 k' ∧ k' ≤ n ∧ Value.slice ad j cp = .slice ad j cp ∧ Value.int .u32 (dn : Int) = .int .u32 (dn : Int) ∧ (∀ i, i < k' → readyN P dn i = false) ∧ Sl wr 3 1 (.slice ad j cp) j (intsC l) own ∧ Frm w1.heap.size [] w1 wr :=
                ⟨k + 1, by simp, hkn, rfl, rfl, hno2, hsl, hfr⟩
              have ha1 : ((an : Int) == 0) = false := by simp; omega
              have ha2 : ¬ (an : Int) = 0 := by omega
              clear hno hsl hfr hno2 hrf
              have HFIN := Lib.hid hfin
              have HMS2 := Lib.hid hms2
              have HTS := Lib.hid hts
              have HRD := Lib.hid hrd
              have HKN := Lib.hid hkn
              have HAN := Lib.hid han
              have HBK := Lib.hid hbk
              clear hbk han hkn hrd hts hms2 hfin
              go_wp2_with (go_at_call 73; refine (hasS_any dn k HDN32.out (by have := HKN.out; have := HN12.out; omega) _).mono ?_; rintro e w' ⟨rfl, rfl⟩; rw [HTS.out])
              (try simp only [x4x, x5x])
              exact ⟨HFIN.out, HMS2.out⟩
            subst ha0
            have hrt : readyN P dn k = true := by rw [hrd, hts]; rfl
            have hnk : nextN P dn = some k := find_range (by have := HN.out; omega) hno hrt
            have hrs : rowS P (t + 1) = (l ++ [k], dn ||| 1 <<< k) := by rw [HNX.out, hnk]
            clear hno hrd
            have HMS2 := Lib.hid hms2
            have HTS := Lib.hid hts
            have HKN := Lib.hid hkn
            have HAN := Lib.hid han
            have HBK := Lib.hid hbk
            have HNK := Lib.hid hnk
            have HRS := Lib.hid hrs
            have HSL := Lib.hid hsl
            have HFR := Lib.hid hfr
            clear hfr hsl hrs hnk hbk han hkn hts hms2
            go_wp2_with (first | (go_at_call 73; refine (hasS_any dn k HDN32.out (by have := HKN.out; have := HN12.out; omega) _).mono ?_; rintro e w' ⟨rfl, rfl⟩; rw [HTS.out]) | (at_builtin; refine hold ?_; intro qG hG))
            refine hG.1 ?_; clear hG qG
            refine wpList_append_sl _ rfl (.tmp 44) (.tmp 46) 26 rfl 3 i0 _ 1 8 Tryd.underlying26 HI0.out HZ0.out HZ1.out HZ2.out rfl _ j (intsC l) own rfl (HSL.out.alloc _) ⟨wr.heap.size, 0, none⟩ 1 1 [.int .i64 (k : Int)] rfl rfl (news_alloc _ [.int .i64 (k : Int)] _) (by simp [Value.oneCell']) (by have := HOK2.out.1; have := HTN.out; have := HN12.out; unfold maxLen; omega) (by have := HOK2.out.1; have := HTN.out; have := HN12.out; omega) ?_
            intro v2 w4 own1 hs1 hf1 ho1
            have hfr4 : Frm w1.heap.size [] w1 w4 := (HFR.out.alloc HFR.out.size _).call hf1 (by have := HFR.out.size; simp; omega) (fun x hx hm => by have := HOWN.out x (by simpa using hm); omega)
            have hown1 : ∀ b, own1 = some b → w1.heap.size ≤ b := fun b hb => by
              rcases ho1 with h | ⟨q, h, hq⟩
              · exact HOWN.out b (by rw [← h]; exact hb)
              · rw [hb] at h; cases h; have := HFR.out.size; simp at hq; omega
            have hs3 : Sl w4 3 1 v2 (j + 1) (intsC (rowS P (t + 1)).1) own1 := by rw [HRS.out, intsC_snoc]; exact hs1
            obtain ⟨ad1, cp1, rfl⟩ := hs3.form
            have hfin : ∃ t' : Nat, Value.int .i64 ((t : Int) + 1) = .int .i64 t' ∧ t' ≤ n ∧ Value.int .u32 ((dn ||| 1 <<< k : Nat) : Int) = .int .u32 (((rowS P t').2 : Nat) : Int) ∧ (∃ own, Sl w4 3 1 (.slice ad1 (j + 1) cp1) (rowS P t').1.length (intsC (rowS P t').1) own ∧ ∀ b, own = some b → w1.heap.size ≤ b) ∧ Frm w1.heap.size [] w1 w4 :=
              ⟨t + 1, by simp, HTN.out, by rw [HRS.out], ⟨own1, by rw [show (rowS P (t + 1)).1.length = j + 1 by rw [HRS.out, HJ.out]; simp]; exact hs3, hown1⟩, hfr4⟩
            clear hf1 ho1 hs1 hs3 hfr4 hown1
            have HFIN := Lib.hid hfin
            clear hfin
            go_wp2_with (go_at_call 70; refine (withS_any dn k HDN32.out (by have := HKN.out; have := HN12.out; omega) _).mono ?_; rintro e w' ⟨rfl, rfl⟩)
            (try simp only [w4x, w5x])
            exact ⟨HFIN.out, HMS.out⟩
          · have hkn' : ¬ (k : Int) < (n : Int) := by omega
            obtain rfl : k = n := by omega
            have hnk : nextN P dn = none := find_range_no (fun i hi => hno i (by have := HN.out; omega))
            have hrs : rowS P (t + 1) = (l, dn) := by rw [HNX.out, hnk]
            have hfin : ∃ t' : Nat, Value.int .i64 ((t : Int) + 1) = .int .i64 t' ∧ t' ≤ k ∧ Value.int .u32 (dn : Int) = .int .u32 (((rowS P t').2 : Nat) : Int) ∧ (∃ own, Sl wr 3 1 (.slice ad j cp) (rowS P t').1.length (intsC (rowS P t').1) own ∧ ∀ b, own = some b → w1.heap.size ≤ b) ∧ Frm w1.heap.size [] w1 wr :=
              ⟨t + 1, by simp, HTN.out, by rw [hrs], ⟨own, by rw [hrs]; dsimp only; rw [← HJ.out]; exact hsl, HOWN.out⟩, hfr⟩
            clear hno hsl hfr hrs hnk
            have HFIN := Lib.hid hfin
            clear hfin
            go_wp2_with fail
            (try simp only [w4x, w5x])
            exact ⟨HFIN.out, HMS.out⟩
      · have htn' : ¬ (t : Int) < (n : Int) := by omega
        obtain rfl : t = n := by omega
        have hrl : rowL P = (rowS P t).1 := by unfold rowL; rw [HN.out]
        obtain ⟨j, hj⟩ : ∃ j, j = (rowS P t).1.length := ⟨_, rfl⟩
        rw [← hj] at hsl ⊢
        have HSL := Lib.hid hsl
        have HOWN := Lib.hid hown
        have HFR := Lib.hid hfr
        have HJ := Lib.hid hj
        have HRL := Lib.hid hrl
        clear hrl hj hfr hown hsl
        go_wp2_with fail
        refine bodyPost_ret (v := .tuple #[.slice ad j cp, .int .i64 0]) (by simp [results, Tryd.results38, go_sem]) rfl ?_
        refine ⟨by unfold RowIs; rw [HP.out]; exact ⟨_, own, rfl, by rw [HRL.out, ← HJ.out]; exact HSL.out, fun b hb => by have := HOWN.out b hb; have := HF.out.size; omega⟩, HF.out.call HFR.out HF.out.size (by simp)⟩
end Go.Proofs.YtfmigicmfolbjaaDoor
