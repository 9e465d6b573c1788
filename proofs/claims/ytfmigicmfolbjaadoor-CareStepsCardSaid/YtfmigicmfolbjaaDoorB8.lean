/-
  Texts S6 of this claim, one behind the other.
-/
import Derived.Test.YtfmigicmfolbjaaDoorB7
namespace Go.Proofs.YtfmigicmfolbjaaDoor
set_option linter.all false
set_option linter.unusedSimpArgs false
set_option linter.unusedVariables false
open Go.RowKit Go.Shelf

attribute [local go_sem] run_store_fn
def contS (P : PL) (f B : Nat) (A : List Nat) (i : Nat) : Bool := !((P.ends (A.getD i 0)).testBit f) || anyA P f (bitsOf P.n (P.after (A.getD i 0) &&& B))
/-- What the program asks. -/
def surelyB (P : PL) (f B M : Nat) : Bool := (P.start.testBit f || anyA P f (bitsOf P.n B)) && (bitsOf P.n M).all fun c => !((P.ends c).testBit f) || anyA P f (bitsOf P.n (P.after c &&& B))
theorem allS_yes {P : PL} {f B : Nat} {A : List Nat} (h : ∀ i, i < A.length → contS P f B A i = true) : (A.all fun c => !((P.ends c).testBit f) || anyA P f (bitsOf P.n (P.after c &&& B))) = true := by
  rw [List.all_eq_true]
  intro x hx
  obtain ⟨i, hi, rfl⟩ := List.getElem_of_mem hx
  have := h i hi
  unfold contS at this
  simpa [List.getD_eq_getElem?_getD, hi] using this
theorem allS_no {P : PL} {f B : Nat} {A : List Nat} {i : Nat} (hi : i < A.length) (h : contS P f B A i = false) : (A.all fun c => !((P.ends c).testBit f) || anyA P f (bitsOf P.n (P.after c &&& B))) = false := by
  rw [List.all_eq_false]
  refine ⟨A.getD i 0, by simp [List.getD_eq_getElem?_getD, hi], ?_⟩
  unfold contS at h
  rw [h]
  simp
structure SureJ (w : World) (c pb f B : Nat) (A : World) : Prop where
  fr : Frm w.heap.size [] w A
  k0 : Blk A c 108 [.pointer (some ⟨pb, 0, none⟩)]
  k1 : Blk A (c + 1) 126 [.int .i64 (f : Int)]
  k2 : Blk A (c + 1 + 1) 119 [.int .u32 (B : Int)]
  k3 : Blk A (c + 1 + 1 + 1) 4 [.bool false]
  k4 : Blk A (c + 1 + 1 + 1 + 1) 153 [.func (.func 104) #[] #[.pointer (some ⟨c + 1, 0, none⟩)]]
theorem SureJ.next {w A A' : World} {c pb f B N : Nat} {S : List Nat} (h : SureJ w c pb f B A) (hf : Frm N S A A') (hN : N ≤ A.heap.size) (hc : w.heap.size ≤ c) (hcN : c + 1 + 1 + 1 + 1 < N) (hS : ∀ x, x ∈ S → c + 1 + 1 + 1 + 1 < x) : SureJ w c pb f B A' :=
  have no : ∀ x, x ≤ c + 1 + 1 + 1 + 1 → x ∉ S := fun x hx hm => by have := hS x hm; omega
  ⟨h.fr.call hf (by omega) (fun x hx hm => by have := hS x hm; omega), hf.blk h.k0 (by omega) (no _ (by omega)), hf.blk h.k1 (by omega) (no _ (by omega)), hf.blk h.k2 (by omega) (no _ (by omega)), hf.blk h.k3 (by omega) (no _ (by omega)), hf.blk h.k4 (by omega) (no _ (by omega))⟩
theorem SureJ.put {w A : World} {c pb f B N : Nat} (h : SureJ w c pb f B A) (o : Obj) (hc : w.heap.size ≤ c) (hcN : c + 1 + 1 + 1 + 1 < N) : SureJ w c pb f B (A.putObj N o) :=
  ⟨h.fr.putObj (.inr (by omega)) o, (World.putObj_heap_other (by omega)).trans h.k0, (World.putObj_heap_other (by omega)).trans h.k1, (World.putObj_heap_other (by omega)).trans h.k2, (World.putObj_heap_other (by omega)).trans h.k3, (World.putObj_heap_other (by omega)).trans h.k4⟩
def SureX (w : World) (c : Nat) (_ : Nat) (A : World) : Prop := Frm w.heap.size [] w A ∧ Blk A (c + 1 + 1 + 1) 4 [.bool false]
set_option maxRecDepth 100000 in
set_option maxHeartbeats 16000000 in
theorem surely_any (pb : Nat) (q : PP) (P : PL) (hok : PLOK P) (f B M : Nat) (hf : f < 16) (hB : B < 2 ^ P.n) (hM : M < 2 ^ P.n) (w : World) (hp : PlAt w pb q P) (hg : Glob w) :
    Calls Tryd.prog 72 #[.pointer (some ⟨pb, 0, none⟩), .int .i64 (f : Int), .int .u32 (B : Int), .int .u32 (M : Int)] w fun e w' => e = .returned (.bool (surelyB P f B M)) ∧ Frm w.heap.size [] w w' := by
  obtain ⟨res, hres⟩ : ∃ r, r = surelyB P f B M := ⟨_, rfl⟩
  rw [← hres]
  have hsur : surelyB P f B M = ((P.start.testBit f || anyA P f (bitsOf P.n B)) && (bitsOf P.n M).all fun c => !((P.ends c).testBit f) || anyA P f (bitsOf P.n (P.after c &&& B))) := rfl
  rw [← hres] at hsur
  clear hres
  have HSUR := Lib.hid hsur
  clear hsur
  have hf0 := Tryd.func72
  have e3 : Enters 113 := enters Tryd.func113 (by kernel_rfl) (by kernel_rfl)
  have hn12 := hok.n
  refine (callsIn_wide (n := 1)).1 ?_
  refine callsIn_of_wp_marks Tryd.func72 rfl trivial ?_ rfl
  simp only [Tryd.ntmps72, List.size_toArray, List.length_cons, List.length_nil, Nat.reduceAdd, Nat.reduceSub, Array.replicate_succ, Array.replicate_zero, List.push_toArray, List.append_toArray, List.nil_append, List.cons_append]
  refine wpIn_mono (Q := retOnly _) ?_ retOnly_le
  refine wpIn_wide.2 ?_
  have HOK := Lib.hid hok
  have HBB := Lib.hid hB
  have HMM := Lib.hid hM
  have HFF := Lib.hid hf
  have HPL := Lib.hid hp
  have HG := Lib.hid hg
  have E3 := Lib.hid e3
  have HN12 := Lib.hid hn12
  clear hn12 e3 hg hp hf hM hB hok
  go_upto_region 2 with fail
  refine namedC ?_; intro W hW
  obtain ⟨c, hc⟩ : ∃ c, c = w.heap.size := ⟨_, rfl⟩
  have hJ : SureJ w c pb f B W := by
    rw [hW, hc]
    refine ⟨?_, ?_, ?_, ?_, ?_, ?_⟩
    · repeat (first | with_reducible exact Frm.refl _ _ _ | with_reducible refine Frm.drewN ?_ | with_reducible refine Frm.drew ?_ | ((with_reducible refine Frm.setCell' ?_ ?_); · first | (left; simp; done) | (right; simp; done) | (right; simp; omega)) | ((with_reducible refine Frm.alloc' ?_ ?_); · first | exact Nat.le_refl _ | (simp; done) | (simp; omega)))
    · repeat (first | exact Blk.new' _ 108 [.pointer (some ⟨pb, 0, none⟩)] (by simp) | exact Blk.new w 108 [.pointer (some ⟨pb, 0, none⟩)] | refine Blk.alloc' ?_ | ((with_reducible refine Blk.other' ?_ ?_); · (simp; try omega)))
    · repeat (first | exact Blk.new' _ 126 [.int .i64 (f : Int)] (by simp) | exact Blk.new w 126 [.int .i64 (f : Int)] | refine Blk.alloc' ?_ | ((with_reducible refine Blk.other' ?_ ?_); · (simp; try omega)))
    · repeat (first | exact Blk.new' _ 119 [.int .u32 (B : Int)] (by simp) | exact Blk.new w 119 [.int .u32 (B : Int)] | refine Blk.alloc' ?_ | ((with_reducible refine Blk.other' ?_ ?_); · (simp; try omega)))
    · repeat (first | exact Blk.new' _ 4 [.bool false] (by simp) | exact Blk.new w 4 [.bool false] | refine Blk.alloc' ?_ | ((with_reducible refine Blk.other' ?_ ?_); · (simp; try omega)))
    · exact Blk.new' _ 153 [.func (.func 104) #[] #[.pointer (some ⟨w.heap.size + 1, 0, none⟩)]] (by simp)
  have hcz : c + 1 + 1 + 1 + 1 < W.heap.size := hJ.k4.lt
  clear hW hf0
  rw [← hc]
  have hpW := HPL.out.frm hJ.fr (Nat.le_refl _)
  have hgW := HG.out.frm hJ.fr (Nat.le_refl _)
  have hfx : ∀ V, Frm W.heap.size [] W V → V.cell? ⟨c, 0, none⟩ = some (.pointer (some ⟨pb, 0, none⟩)) ∧ V.cell? ⟨c + 1, 0, none⟩ = some (.int .i64 (f : Int)) ∧ V.cell? ⟨c + 1 + 1, 0, none⟩ = some (.int .u32 (B : Int)) ∧ V.cell? ⟨c + 1 + 1 + 1 + 1, 0, none⟩ = some (.func (.func 104) #[] #[.pointer (some ⟨c + 1, 0, none⟩)]) ∧ V.cell? ⟨pb, 0, none⟩ = some (.int .u32 (P.start : Int)) := fun V hV =>
    ⟨(hV.blk hJ.k0 hJ.k0.lt (by simp)).cell 0, (hV.blk hJ.k1 hJ.k1.lt (by simp)).cell 0, (hV.blk hJ.k2 hJ.k2.lt (by simp)).cell 0, (hV.blk hJ.k4 hJ.k4.lt (by simp)).cell 0, (hV.blk hpW.box hpW.box.lt (by simp)).cell 0⟩
  have hst := HOK.out.start
  have HJ := Lib.hid hJ
  have HC := Lib.hid hc
  have HCZ := Lib.hid hcz
  have HPW := Lib.hid hpW
  have HGW := Lib.hid hgW
  have HFX := Lib.hid hfx
  have HST := Lib.hid hst
  clear hst hfx hgW hpW hcz hc hJ
  -- the first question
  go_cut [25] from 12 to 26 (fun s25 w' => s25 = .bool (!(P.start.testBit f || anyA P f (bitsOf P.n B))) ∧ Frm W.heap.size [] W w')
  case first =>
    cases hb0 : P.start.testBit f
    · refine wp_region_leftL (fun V => Frm W.heap.size [] W V) 1000 (by kernel_rfl) ?_
      have hS : Frm W.heap.size [] W W.drew := (Frm.refl _ _ W).drew
      have HS := Lib.hid hS
      clear hS
      first | ((first | refine LeftL.tkF (v := ?_) 0 rfl HS.out ?_ ?_ | refine LeftL.tkG (v := ?_) 0 rfl HS.out ?_ ?_); rotate_left; (· intro V hV; obtain ⟨q0, q1, q2, q3, q4⟩ := HFX.out V hV; clear hV; go_simp; rfl)) | refine LeftL.tkN 0 rfl HS.out ?_
      (intro K' hK'; go_simp; refine hK' _ ?_; clear hK' K')
      first | ((first | refine LeftL.tkF (v := ?_) 1 rfl HS.out ?_ ?_ | refine LeftL.tkG (v := ?_) 1 rfl HS.out ?_ ?_); rotate_left; (· intro V hV; obtain ⟨q0, q1, q2, q3, q4⟩ := HFX.out V hV; clear hV; go_simp; rfl)) | refine LeftL.tkN 1 rfl HS.out ?_
      (intro K' hK'; go_simp; refine hK' _ ?_; clear hK' K')
      first | ((first | refine LeftL.tkF (v := ?_) 2 rfl HS.out ?_ ?_ | refine LeftL.tkG (v := ?_) 2 rfl HS.out ?_ ?_); rotate_left; (· intro V hV; obtain ⟨q0, q1, q2, q3, q4⟩ := HFX.out V hV; clear hV; go_simp; rfl)) | refine LeftL.tkN 2 rfl HS.out ?_
      (intro K' hK'; go_simp; refine hK' _ ?_; clear hK' K')
      first | ((first | refine LeftL.tkF (v := ?_) 3 rfl HS.out ?_ ?_ | refine LeftL.tkG (v := ?_) 3 rfl HS.out ?_ ?_); rotate_left; (· intro V hV; obtain ⟨q0, q1, q2, q3, q4⟩ := HFX.out V hV; clear hV; go_simp; rfl)) | refine LeftL.tkN 3 rfl HS.out ?_
      (intro K' hK'; go_simp; refine hK' _ ?_; clear hK' K')
      first | ((first | refine LeftL.tkF (v := ?_) 4 rfl HS.out ?_ ?_ | refine LeftL.tkG (v := ?_) 4 rfl HS.out ?_ ?_); rotate_left; (· intro V hV; obtain ⟨q0, q1, q2, q3, q4⟩ := HFX.out V hV; clear hV; go_simp; rfl)) | refine LeftL.tkN 4 rfl HS.out ?_
      (intro K' hK'; go_simp; refine hK' _ ?_; clear hK' K')
      refine LeftL.one 5 rfl (by kernel_rfl) ?_
      go_wp2_with fail
      refine (hasF_any P.start f (by have := HST.out; omega) (by have := HFF.out; omega) _).mono ?_; rintro e w' ⟨rfl, rfl⟩
      rw [hb0]
      go_wp2_with fail
      first | refine ⟨fun _ => HS.out, ?_⟩ | refine ⟨HS.out, ?_⟩
      first | ((first | refine LeftL.tkF (v := ?_) 6 rfl HS.out ?_ ?_ | refine LeftL.tkG (v := ?_) 6 rfl HS.out ?_ ?_); rotate_left; (· intro V hV; obtain ⟨q0, q1, q2, q3, q4⟩ := HFX.out V hV; clear hV; go_simp; rfl)) | refine LeftL.tkN 6 rfl HS.out ?_
      (intro K' hK'; go_simp; refine hK' _ ?_; clear hK' K')
      first | ((first | refine LeftL.tkF (v := ?_) 7 rfl HS.out ?_ ?_ | refine LeftL.tkG (v := ?_) 7 rfl HS.out ?_ ?_); rotate_left; (· intro V hV; obtain ⟨q0, q1, q2, q3, q4⟩ := HFX.out V hV; clear hV; go_simp; rfl)) | refine LeftL.tkN 7 rfl HS.out ?_
      (intro K' hK'; go_simp; refine hK' _ ?_; clear hK' K')
      first | ((first | refine LeftL.tkF (v := ?_) 8 rfl HS.out ?_ ?_ | refine LeftL.tkG (v := ?_) 8 rfl HS.out ?_ ?_); rotate_left; (· intro V hV; obtain ⟨q0, q1, q2, q3, q4⟩ := HFX.out V hV; clear hV; go_simp; rfl)) | refine LeftL.tkN 8 rfl HS.out ?_
      (intro K' hK'; go_simp; refine hK' _ ?_; clear hK' K')
      first | ((first | refine LeftL.tkF (v := ?_) 9 rfl HS.out ?_ ?_ | refine LeftL.tkG (v := ?_) 9 rfl HS.out ?_ ?_); rotate_left; (· intro V hV; obtain ⟨q0, q1, q2, q3, q4⟩ := HFX.out V hV; clear hV; go_simp; rfl)) | refine LeftL.tkN 9 rfl HS.out ?_
      (intro K' hK'; go_simp; refine hK' _ ?_; clear hK' K')
      first | ((first | refine LeftL.tkF (v := ?_) 10 rfl HS.out ?_ ?_ | refine LeftL.tkG (v := ?_) 10 rfl HS.out ?_ ?_); rotate_left; (· intro V hV; obtain ⟨q0, q1, q2, q3, q4⟩ := HFX.out V hV; clear hV; go_simp; rfl)) | refine LeftL.tkN 10 rfl HS.out ?_
      (intro K' hK'; go_simp; refine hK' _ ?_; clear hK' K')
      refine LeftL.one 11 rfl (by kernel_rfl) ?_
      go_wp2_with fail
      refine (any_any pb q P HOK.out B HBB.out (c + 1) f HFF.out W.drew (HPW.out.frm HS.out (Nat.le_refl _)) (HS.out.blk HJ.out.k1 HJ.out.k1.lt (by simp)) (HGW.out.frm HS.out (Nat.le_refl _))).mono ?_; rintro e w2 ⟨rfl, hf1⟩
      have hS1 := HS.out.call hf1 HS.out.size (by simp)
      obtain ⟨an, han⟩ : ∃ r, r = anyA P f (bitsOf P.n B) := ⟨_, rfl⟩
      rw [← han]
      clear hf1 HS
      have HS := Lib.hid hS1
      have HAN := Lib.hid han
      clear han hS1
      go_wp2_with fail
      first | refine ⟨fun _ => HS.out, ?_⟩ | refine ⟨HS.out, ?_⟩
      first | ((first | refine LeftL.tkF (v := ?_) 12 rfl HS.out ?_ ?_ | refine LeftL.tkG (v := ?_) 12 rfl HS.out ?_ ?_); rotate_left; (· intro V hV; obtain ⟨q0, q1, q2, q3, q4⟩ := HFX.out V hV; clear hV; go_simp; rfl)) | refine LeftL.tkN 12 rfl HS.out ?_
      (intro K' hK'; go_simp; refine hK' _ ?_; clear hK' K')
      first | ((first | refine LeftL.tkF (v := ?_) 13 rfl HS.out ?_ ?_ | refine LeftL.tkG (v := ?_) 13 rfl HS.out ?_ ?_); rotate_left; (· intro V hV; obtain ⟨q0, q1, q2, q3, q4⟩ := HFX.out V hV; clear hV; go_simp; rfl)) | refine LeftL.tkN 13 rfl HS.out ?_
      (intro K' hK'; go_simp; refine hK' _ ?_; clear hK' K')
      refine LeftL.done (by kernel_rfl) ?_
      (try simp only [Act.put])
      go_wp2_with fail
      go_meet
      case rel => exact ⟨by rw [hb0, ← HAN.out]; cases an <;> rfl, HS.out⟩
    · refine wp_region_leftL (fun V => Frm W.heap.size [] W V) 1000 (by kernel_rfl) ?_
      have hS : Frm W.heap.size [] W W.drew := (Frm.refl _ _ W).drew
      have HS := Lib.hid hS
      clear hS
      first | ((first | refine LeftL.tkF (v := ?_) 0 rfl HS.out ?_ ?_ | refine LeftL.tkG (v := ?_) 0 rfl HS.out ?_ ?_); rotate_left; (· intro V hV; obtain ⟨q0, q1, q2, q3, q4⟩ := HFX.out V hV; clear hV; go_simp; rfl)) | refine LeftL.tkN 0 rfl HS.out ?_
      (intro K' hK'; go_simp; refine hK' _ ?_; clear hK' K')
      first | ((first | refine LeftL.tkF (v := ?_) 1 rfl HS.out ?_ ?_ | refine LeftL.tkG (v := ?_) 1 rfl HS.out ?_ ?_); rotate_left; (· intro V hV; obtain ⟨q0, q1, q2, q3, q4⟩ := HFX.out V hV; clear hV; go_simp; rfl)) | refine LeftL.tkN 1 rfl HS.out ?_
      (intro K' hK'; go_simp; refine hK' _ ?_; clear hK' K')
      first | ((first | refine LeftL.tkF (v := ?_) 2 rfl HS.out ?_ ?_ | refine LeftL.tkG (v := ?_) 2 rfl HS.out ?_ ?_); rotate_left; (· intro V hV; obtain ⟨q0, q1, q2, q3, q4⟩ := HFX.out V hV; clear hV; go_simp; rfl)) | refine LeftL.tkN 2 rfl HS.out ?_
      (intro K' hK'; go_simp; refine hK' _ ?_; clear hK' K')
      first | ((first | refine LeftL.tkF (v := ?_) 3 rfl HS.out ?_ ?_ | refine LeftL.tkG (v := ?_) 3 rfl HS.out ?_ ?_); rotate_left; (· intro V hV; obtain ⟨q0, q1, q2, q3, q4⟩ := HFX.out V hV; clear hV; go_simp; rfl)) | refine LeftL.tkN 3 rfl HS.out ?_
      (intro K' hK'; go_simp; refine hK' _ ?_; clear hK' K')
      first | ((first | refine LeftL.tkF (v := ?_) 4 rfl HS.out ?_ ?_ | refine LeftL.tkG (v := ?_) 4 rfl HS.out ?_ ?_); rotate_left; (· intro V hV; obtain ⟨q0, q1, q2, q3, q4⟩ := HFX.out V hV; clear hV; go_simp; rfl)) | refine LeftL.tkN 4 rfl HS.out ?_
      (intro K' hK'; go_simp; refine hK' _ ?_; clear hK' K')
      refine LeftL.one 5 rfl (by kernel_rfl) ?_
      go_wp2_with fail
      refine (hasF_any P.start f (by have := HST.out; omega) (by have := HFF.out; omega) _).mono ?_; rintro e w' ⟨rfl, rfl⟩
      rw [hb0]
      go_wp2_with fail
      first | refine ⟨fun _ => HS.out, ?_⟩ | refine ⟨HS.out, ?_⟩
      first | ((first | refine LeftL.tkF (v := ?_) 6 rfl HS.out ?_ ?_ | refine LeftL.tkG (v := ?_) 6 rfl HS.out ?_ ?_); rotate_left; (· intro V hV; obtain ⟨q0, q1, q2, q3, q4⟩ := HFX.out V hV; clear hV; go_simp; rfl)) | refine LeftL.tkN 6 rfl HS.out ?_
      (intro K' hK'; go_simp; refine hK' _ ?_; clear hK' K')
      first | ((first | refine LeftL.tkF (v := ?_) 7 rfl HS.out ?_ ?_ | refine LeftL.tkG (v := ?_) 7 rfl HS.out ?_ ?_); rotate_left; (· intro V hV; obtain ⟨q0, q1, q2, q3, q4⟩ := HFX.out V hV; clear hV; go_simp; rfl)) | refine LeftL.tkN 7 rfl HS.out ?_
      (intro K' hK'; go_simp; refine hK' _ ?_; clear hK' K')
      first | ((first | refine LeftL.tkF (v := ?_) 8 rfl HS.out ?_ ?_ | refine LeftL.tkG (v := ?_) 8 rfl HS.out ?_ ?_); rotate_left; (· intro V hV; obtain ⟨q0, q1, q2, q3, q4⟩ := HFX.out V hV; clear hV; go_simp; rfl)) | refine LeftL.tkN 8 rfl HS.out ?_
      (intro K' hK'; go_simp; refine hK' _ ?_; clear hK' K')
      first | ((first | refine LeftL.tkF (v := ?_) 9 rfl HS.out ?_ ?_ | refine LeftL.tkG (v := ?_) 9 rfl HS.out ?_ ?_); rotate_left; (· intro V hV; obtain ⟨q0, q1, q2, q3, q4⟩ := HFX.out V hV; clear hV; go_simp; rfl)) | refine LeftL.tkN 9 rfl HS.out ?_
      (intro K' hK'; go_simp; refine hK' _ ?_; clear hK' K')
      first | ((first | refine LeftL.tkF (v := ?_) 10 rfl HS.out ?_ ?_ | refine LeftL.tkG (v := ?_) 10 rfl HS.out ?_ ?_); rotate_left; (· intro V hV; obtain ⟨q0, q1, q2, q3, q4⟩ := HFX.out V hV; clear hV; go_simp; rfl)) | refine LeftL.tkN 10 rfl HS.out ?_
      (intro K' hK'; go_simp; refine hK' _ ?_; clear hK' K')
      first | ((first | refine LeftL.tkF (v := ?_) 11 rfl HS.out ?_ ?_ | refine LeftL.tkG (v := ?_) 11 rfl HS.out ?_ ?_); rotate_left; (· intro V hV; obtain ⟨q0, q1, q2, q3, q4⟩ := HFX.out V hV; clear hV; go_simp; rfl)) | refine LeftL.tkN 11 rfl HS.out ?_
      (intro K' hK'; go_simp; refine hK' _ ?_; clear hK' K')
      first | ((first | refine LeftL.tkF (v := ?_) 12 rfl HS.out ?_ ?_ | refine LeftL.tkG (v := ?_) 12 rfl HS.out ?_ ?_); rotate_left; (· intro V hV; obtain ⟨q0, q1, q2, q3, q4⟩ := HFX.out V hV; clear hV; go_simp; rfl)) | refine LeftL.tkN 12 rfl HS.out ?_
      (intro K' hK'; go_simp; refine hK' _ ?_; clear hK' K')
      first | ((first | refine LeftL.tkF (v := ?_) 13 rfl HS.out ?_ ?_ | refine LeftL.tkG (v := ?_) 13 rfl HS.out ?_ ?_); rotate_left; (· intro V hV; obtain ⟨q0, q1, q2, q3, q4⟩ := HFX.out V hV; clear hV; go_simp; rfl)) | refine LeftL.tkN 13 rfl HS.out ?_
      (intro K' hK'; go_simp; refine hK' _ ?_; clear hK' K')
      refine LeftL.done (by kernel_rfl) ?_
      (try simp only [Act.put])
      go_wp2_with fail
      go_meet
      case rel => exact ⟨by rw [hb0]; rfl, HS.out⟩
  obtain ⟨rfl, hfc⟩ := hcut
  obtain ⟨fi, hfi⟩ : ∃ r, r = (P.start.testBit f || anyA P f (bitsOf P.n B)) := ⟨_, rfl⟩
  have hsu := HSUR.out
  rw [← hfi] at hsu ⊢
  have hJ2 := HJ.out.next hfc (Nat.le_refl _) (by rw [HC.out]; exact Nat.le_refl _) HCZ.out (fun x hx => by cases hx)
  have hcz2 : c + 1 + 1 + 1 + 1 < wc.heap.size := Nat.lt_of_lt_of_le HCZ.out hfc.size
  have c3 := hJ2.k3.cell 0
  have f3 := hJ2.k3.free 0
  clear hfc HJ HCZ HPW HGW HFX hfi
  have HJ := Lib.hid hJ2
  have HSU := Lib.hid hsu
  have HCZ := Lib.hid hcz2
  clear hcz2 hsu hJ2
  cases fi
  · go_wp2_with fail
    have b6 := HJ.out.k3.set 0 (.bool false)
    have f6 : Frm w.heap.size [] w (wc.setCell ⟨c + 1 + 1 + 1, 0, none⟩ (.bool false)) := HJ.out.fr.setCell (p := ⟨c + 1 + 1 + 1, 0, none⟩) (.inr (by dsimp only; have := HC.out; omega)) _
    generalize wc.setCell ⟨c + 1 + 1 + 1, 0, none⟩ (.bool false) = W3 at b6 f6 ⊢
    refine ⟨_, results_bool Tryd.results72 (b := c + 1 + 1 + 1) (T := 4) (x := false) b6 rfl, ?_⟩
    exact ⟨by rw [HSU.out]; rfl, f6⟩
  clear c3 f3
  go_wp2_with fail
  refine (allS_any M wc).mono ?_; rintro e w1 ⟨rfl, hsb, hf1⟩
  have hwc : w.heap.size ≤ c := by rw [HC.out]; exact Nat.le_refl _
  have hJ1 := HJ.out.next hf1 (Nat.le_refl _) hwc HCZ.out (fun x hx => by cases hx)
  obtain ⟨sb, hsbn⟩ : ∃ k, k = wc.heap.size := ⟨_, rfl⟩
  have hcs : c + 1 + 1 + 1 + 1 < sb := by rw [hsbn]; exact HCZ.out
  rw [← hsbn] at hsb ⊢
  have hsl := hsb.lt
  clear hf1 HJ hsbn HCZ hwc
  have HJ := Lib.hid hJ1
  have HSB := Lib.hid hsb
  have HCS := Lib.hid hcs
  have HSL := Lib.hid hsl
  clear hsl hcs hsb hJ1
  go_wp2_with fail
  obtain ⟨N, hN⟩ : ∃ N, N = w1.heap.size := ⟨_, rfl⟩
  have hsN : sb < N := by rw [hN]; exact HSL.out
  have hcN : c + 1 + 1 + 1 + 1 < sb := HCS.out
  have hwN : w.heap.size ≤ N := by rw [hN]; exact HJ.out.fr.size
  have HNE := Lib.hid hN
  clear hN
  obtain ⟨A, hA⟩ : ∃ A, A = bitsOf P.n M := ⟨_, rfl⟩
  have hAl : ∀ i, i < A.length → A.getD i 0 < P.n := fun i hi => by
    have h1 : A.getD i 0 ∈ A := by simp [List.getD_eq_getElem?_getD, hi]
    rw [hA] at h1
    exact (bitsOf_mem.1 (by rw [← hA] at h1 ⊢; exact h1)).1
  have HAA := Lib.hid hA
  have HAL := Lib.hid hAl
  clear hAl hA
  refine (wpIn_wide (n := 1)).1 ?_
  refine wp_rangeFunc_ret (m := 0) (gf := 113) (lb := #[.pointer (some ⟨sb, 0, none⟩)]) rfl E3.out.out
    (fun i => #[.int .i64 ((A.getD i 0 : Nat) : Int)]) (fun i => rfl) A.length (contS P f B A) [sb] [c + 1 + 1 + 1] (fun _ => SureJ w c pb f B) (SureX w c)
    (fun o _ => match o with
      | none => ∀ i, i < A.length → contS P f B A i = true
      | some i => i < A.length ∧ contS P f B A i = false)
    ?hS0 ?hST ?hJ ?hJx ?hR ?hiter ?h0 ?hround ?hdone ?hstop
  case hS0 => intro x hx; rw [← HNE.out]; simp at hx; omega
  case hST => intro x hx; rw [← HNE.out]; simp at hx; omega
  case hJ =>
    intro i A1 B' hA1 hj hf
    rw [← HNE.out] at hA1 hf
    have hcw := HC.out
    exact hj.next hf (Nat.le_refl _) (by omega) (by omega) (fun x hm => by simp at hm; omega)
  case hJx =>
    rintro i A1 o hA1 ⟨j0, j3⟩
    rw [← HNE.out]
    have hcw := HC.out
    exact ⟨j0.putObj (.inr (by omega)) o, (World.putObj_heap_other (by omega)).trans j3⟩
  case hR => intro o A1 ob hR; exact hR
  case hiter =>
    intro J' Jx' W2 hfW2 hN2 hJ' hY' h0'
    rw [← HNE.out] at hfW2 hN2 hJ' hY'
    rw [← HNE.out]
    have hcw := HC.out
    have hw2 : Frm w.heap.size [] w W2 := HJ.out.fr.call hfW2 hwN (by simp)
    refine callsIn_wide.2 ((iterS_any sb M P.n N 0 (N + 1) [c + 1 + 1 + 1] w W2 HG.out hw2 (hfW2.blk HSB.out hsN (by simp)) (by omega) (by omega) hsN (by simp; omega) (fun x hx => by simp at hx; omega) (by have := HN12.out; omega) HMM.out (contS P f B A)
      (fun i A1 => J' i A1 ∧ N + 2 ≤ A1.heap.size) Jx' ?_ ?_ ⟨h0', hN2⟩).mono ?_)
    · rintro i A1 B' _ ⟨hj, hz⟩ hf
      exact ⟨hJ' i A1 B' hz hj hf, Nat.le_trans hz hf.size⟩
    · rintro i A0 A1 hi _ ⟨hj, hz⟩ hf
      rw [← HAA.out] at hi ⊢
      refine (hY' i A0 A1 hi hz hj hf).mono ?_
      rintro e A' ⟨hk, (⟨h1, h2, h3⟩ | h)⟩
      · exact ⟨hk, .inl ⟨h1, h2, h3, Nat.le_trans (Nat.le_trans hz hf.size) hk.frm.size⟩⟩
      · exact ⟨hk, .inr h⟩
    · rintro e W3 ⟨hv, hf3, (⟨h1, h2⟩ | ⟨i, h1, h2, h3, h4⟩)⟩
      · rw [← HAA.out] at h1 h2
        exact ⟨hv, .inl ⟨h2, h1.1⟩⟩
      · rw [← HAA.out] at h1
        exact ⟨hv, .inr ⟨i, ⟨h1, h3⟩, h4⟩⟩
  case h0 =>
    intro W2 hf2 hz
    rw [← HNE.out] at hf2
    have hcw := HC.out
    exact HJ.out.next hf2 (by rw [HNE.out]; exact Nat.le_refl _) (by omega) (by omega) (fun x hx => by cases hx)
  case hround =>
    intro i A0 W2 hi hz0 _ hf0 j0
    rw [← HNE.out] at hz0
    rw [← HNE.out]
    have hjn := HAL.out i hi
    obtain ⟨j, hj⟩ : ∃ j, j = A.getD i 0 := ⟨_, rfl⟩
    rw [← hj] at hjn
    dsimp only
    simp only [← hj]
    have hct : contS P f B A i = (!((P.ends j).testBit f) || anyA P f (bitsOf P.n (P.after j &&& B))) := by unfold contS; rw [hj]
    have hcw : w.heap.size ≤ c := by rw [HC.out]; exact Nat.le_refl _
    have HJJ := Lib.hid hj
    have HII := Lib.hid hi
    have HCT := Lib.hid hct
    clear hct hi hj
    refine regionIn_of (noOut noOutF) rfl ?_
    go_wp2_with fail
    refine ⟨⟨Frm.refl _ _ _, fun k _ _ => rfl⟩, ?_⟩
    intro o
    have hz2 : N + 2 ≤ W2.heap.size := Nat.le_trans hz0 hf0.size
    obtain ⟨W4, hW4⟩ : ∃ W4, W4 = W2.putObj (N + 1) o := ⟨_, rfl⟩
    have hz4 : N + 2 ≤ W4.heap.size := by rw [hW4]; simpa using hz2
    have e0 : SureJ w c pb f B W4 := by rw [hW4]; exact j0.put o hcw (by omega)
    rw [← hW4]
    have hz0A : A0.heap.size ≤ W4.heap.size := by rw [hW4]; simpa using hf0.size
    clear hW4 j0 hf0
    have hpl := HPL.out.frm e0.fr (Nat.le_refl _)
    have hgl := HG.out.frm e0.fr (Nat.le_refl _)
    obtain ⟨n, hnn⟩ : ∃ n, n = P.n := ⟨_, rfl⟩
    have had := hpl.acts.ad (by omega)
    have had3 := hpl.aft.ad (by omega)
    have hjn' : (j : Int) < (n : Int) := by omega
    have hfx : ∀ V, Frm W4.heap.size [] W4 V → V.cell? ⟨c, 0, none⟩ = some (.pointer (some ⟨pb, 0, none⟩)) ∧ V.cell? ⟨c + 1, 0, none⟩ = some (.int .i64 (f : Int)) ∧ V.cell? ⟨c + 1 + 1, 0, none⟩ = some (.int .u32 (B : Int)) ∧ V.cell? ⟨c + 1 + 1 + 1 + 1, 0, none⟩ = some (.func (.func 104) #[] #[.pointer (some ⟨c + 1, 0, none⟩)]) ∧ V.cell? ⟨pb, 1, none⟩ = some (.slice (some ⟨q.b1, q.o1, none⟩) n q.c1) ∧ V.cell? ⟨pb, 3, none⟩ = some (.slice (some ⟨q.b3, q.o3, none⟩) n q.c3) ∧ V.cell? ⟨q.b1, q.o1 + j * 3 + 2, none⟩ = some (.int .u32 (P.ends j : Int)) ∧ V.cell? ⟨q.b3, q.o3 + j, none⟩ = some (.int .u32 (P.after j : Int)) := fun V hV => by
      have h3 : V.cell? ⟨pb, 1, none⟩ = some (.slice q.a1 P.n q.c1) := (hV.blk hpl.box hpl.box.lt (by simp)).cell 1
      have h4 : V.cell? ⟨pb, 3, none⟩ = some (.slice q.a3 P.n q.c3) := (hV.blk hpl.box hpl.box.lt (by simp)).cell 3
      rw [had, ← hnn] at h3
      rw [had3, ← hnn] at h4
      exact ⟨(hV.blk e0.k0 e0.k0.lt (by simp)).cell 0, (hV.blk e0.k1 e0.k1.lt (by simp)).cell 0, (hV.blk e0.k2 e0.k2.lt (by simp)).cell 0, (hV.blk e0.k4 e0.k4.lt (by simp)).cell 0, h3, h4, (hpl.acts.frm hV (Nat.le_refl _)).at_ j hjn 2 _ rfl, (hpl.aft.frm hV (Nat.le_refl _)).cell1 hjn⟩
    have htopn : 2 ^ P.n < 2 ^ 13 := Nat.pow_lt_pow_right (by omega) (by have := HN12.out; omega)
    have hej := HOK.out.ends j hjn
    have haj := HOK.out.after j hjn
    have hBl : P.after j &&& B < 2 ^ P.n := Nat.and_lt_two_pow _ HBB.out
    have hand : bits BinOp.and IntKind.u32 (P.after j : Int) (B : Int) = ((P.after j &&& B : Nat) : Int) := and_u32 (by omega) (by have := HBB.out; omega)
    have hany := any_any pb q P HOK.out (P.after j &&& B) hBl (c + 1) f HFF.out
    clear had had3 haj
    have E0 := Lib.hid e0
    have HPLW := Lib.hid hpl
    have HGLW := Lib.hid hgl
    have HFX := Lib.hid hfx
    have HJN := Lib.hid hjn
    have HNN := Lib.hid hnn
    have HZA := Lib.hid hz0A
    have HZ4 := Lib.hid hz4
    have HTOPN := Lib.hid htopn
    have HEJ := Lib.hid hej
    have HBL := Lib.hid hBl
    have HANY := Lib.hid hany
    have HCWW := Lib.hid hcw
    clear hcw hany hBl hej htopn hz4 hz0A hnn hjn hfx hgl hpl e0
    refine wpIn_block ?_
    refine wpIn_seq ?_
    refine regionIn_leftL (noOut (noOutB noOutR)) (by kernel_rfl) (fun V => Frm W4.heap.size [] W4 V) 1000 (by kernel_rfl) ?_
    have hS : Frm W4.heap.size [] W4 W4.drew := (Frm.refl _ _ W4).drew
    have HS := Lib.hid hS
    clear hS
    first | ((first | refine LeftL.tkF (v := ?_) 0 rfl HS.out ?_ ?_ | refine LeftL.tkG (v := ?_) 0 rfl HS.out ?_ ?_); rotate_left; (· intro V hV; obtain ⟨q0, q1, q2, q3, q4, q5, q6, q7⟩ := HFX.out V hV; clear hV; go_simp; rfl)) | refine LeftL.tkN 0 rfl HS.out ?_
    (intro K' hK'; go_simp; refine hK' _ ?_; clear hK' K')
    first | ((first | refine LeftL.tkF (v := ?_) 1 rfl HS.out ?_ ?_ | refine LeftL.tkG (v := ?_) 1 rfl HS.out ?_ ?_); rotate_left; (· intro V hV; obtain ⟨q0, q1, q2, q3, q4, q5, q6, q7⟩ := HFX.out V hV; clear hV; go_simp; rfl)) | refine LeftL.tkN 1 rfl HS.out ?_
    (intro K' hK'; go_simp; refine hK' _ ?_; clear hK' K')
    first | ((first | refine LeftL.tkF (v := ?_) 2 rfl HS.out ?_ ?_ | refine LeftL.tkG (v := ?_) 2 rfl HS.out ?_ ?_); rotate_left; (· intro V hV; obtain ⟨q0, q1, q2, q3, q4, q5, q6, q7⟩ := HFX.out V hV; clear hV; go_simp; rfl)) | refine LeftL.tkN 2 rfl HS.out ?_
    (intro K' hK'; go_simp; refine hK' _ ?_; clear hK' K')
    first | ((first | refine LeftL.tkF (v := ?_) 3 rfl HS.out ?_ ?_ | refine LeftL.tkG (v := ?_) 3 rfl HS.out ?_ ?_); rotate_left; (· intro V hV; obtain ⟨q0, q1, q2, q3, q4, q5, q6, q7⟩ := HFX.out V hV; clear hV; go_simp; rfl)) | refine LeftL.tkN 3 rfl HS.out ?_
    (intro K' hK'; go_simp; refine hK' _ ?_; clear hK' K')
    first | ((first | refine LeftL.tkF (v := ?_) 4 rfl HS.out ?_ ?_ | refine LeftL.tkG (v := ?_) 4 rfl HS.out ?_ ?_); rotate_left; (· intro V hV; obtain ⟨q0, q1, q2, q3, q4, q5, q6, q7⟩ := HFX.out V hV; clear hV; go_simp; rfl)) | refine LeftL.tkN 4 rfl HS.out ?_
    (intro K' hK'; go_simp; refine hK' _ ?_; clear hK' K')
    first | ((first | refine LeftL.tkF (v := ?_) 5 rfl HS.out ?_ ?_ | refine LeftL.tkG (v := ?_) 5 rfl HS.out ?_ ?_); rotate_left; (· intro V hV; obtain ⟨q0, q1, q2, q3, q4, q5, q6, q7⟩ := HFX.out V hV; clear hV; go_simp; rfl)) | refine LeftL.tkN 5 rfl HS.out ?_
    (intro K' hK'; go_simp; refine hK' _ ?_; clear hK' K')
    first | ((first | refine LeftL.tkF (v := ?_) 6 rfl HS.out ?_ ?_ | refine LeftL.tkG (v := ?_) 6 rfl HS.out ?_ ?_); rotate_left; (· intro V hV; obtain ⟨q0, q1, q2, q3, q4, q5, q6, q7⟩ := HFX.out V hV; clear hV; go_simp; rfl)) | refine LeftL.tkN 6 rfl HS.out ?_
    (intro K' hK'; go_simp; refine hK' _ ?_; clear hK' K')
    first | ((first | refine LeftL.tkF (v := ?_) 7 rfl HS.out ?_ ?_ | refine LeftL.tkG (v := ?_) 7 rfl HS.out ?_ ?_); rotate_left; (· intro V hV; obtain ⟨q0, q1, q2, q3, q4, q5, q6, q7⟩ := HFX.out V hV; clear hV; go_simp; rfl)) | refine LeftL.tkN 7 rfl HS.out ?_
    (intro K' hK'; go_simp; refine hK' _ ?_; clear hK' K')
    first | ((first | refine LeftL.tkF (v := ?_) 8 rfl HS.out ?_ ?_ | refine LeftL.tkG (v := ?_) 8 rfl HS.out ?_ ?_); rotate_left; (· intro V hV; obtain ⟨q0, q1, q2, q3, q4, q5, q6, q7⟩ := HFX.out V hV; clear hV; go_simp; rfl)) | refine LeftL.tkN 8 rfl HS.out ?_
    (intro K' hK'; go_simp; refine hK' _ ?_; clear hK' K')
    refine LeftL.one 9 rfl (by kernel_rfl) ?_
    go_wp2_with fail
    refine (hasF_any (P.ends j) f (by have := HEJ.out; omega) (by have := HFF.out; omega) _).mono ?_; rintro e w' ⟨rfl, rfl⟩
    cases ht : (P.ends j).testBit f
    · go_wp2_with fail
      first | refine ⟨fun _ => HS.out, ?_⟩ | refine ⟨HS.out, ?_⟩
      first | ((first | refine LeftL.tkF (v := ?_) 10 rfl HS.out ?_ ?_ | refine LeftL.tkG (v := ?_) 10 rfl HS.out ?_ ?_); rotate_left; (· intro V hV; obtain ⟨q0, q1, q2, q3, q4, q5, q6, q7⟩ := HFX.out V hV; clear hV; go_simp; rfl)) | refine LeftL.tkN 10 rfl HS.out ?_
      (intro K' hK'; go_simp; refine hK' _ ?_; clear hK' K')
      first | ((first | refine LeftL.tkF (v := ?_) 11 rfl HS.out ?_ ?_ | refine LeftL.tkG (v := ?_) 11 rfl HS.out ?_ ?_); rotate_left; (· intro V hV; obtain ⟨q0, q1, q2, q3, q4, q5, q6, q7⟩ := HFX.out V hV; clear hV; go_simp; rfl)) | refine LeftL.tkN 11 rfl HS.out ?_
      (intro K' hK'; go_simp; refine hK' _ ?_; clear hK' K')
      first | ((first | refine LeftL.tkF (v := ?_) 12 rfl HS.out ?_ ?_ | refine LeftL.tkG (v := ?_) 12 rfl HS.out ?_ ?_); rotate_left; (· intro V hV; obtain ⟨q0, q1, q2, q3, q4, q5, q6, q7⟩ := HFX.out V hV; clear hV; go_simp; rfl)) | refine LeftL.tkN 12 rfl HS.out ?_
      (intro K' hK'; go_simp; refine hK' _ ?_; clear hK' K')
      first | ((first | refine LeftL.tkF (v := ?_) 13 rfl HS.out ?_ ?_ | refine LeftL.tkG (v := ?_) 13 rfl HS.out ?_ ?_); rotate_left; (· intro V hV; obtain ⟨q0, q1, q2, q3, q4, q5, q6, q7⟩ := HFX.out V hV; clear hV; go_simp; rfl)) | refine LeftL.tkN 13 rfl HS.out ?_
      (intro K' hK'; go_simp; refine hK' _ ?_; clear hK' K')
      first | ((first | refine LeftL.tkF (v := ?_) 14 rfl HS.out ?_ ?_ | refine LeftL.tkG (v := ?_) 14 rfl HS.out ?_ ?_); rotate_left; (· intro V hV; obtain ⟨q0, q1, q2, q3, q4, q5, q6, q7⟩ := HFX.out V hV; clear hV; go_simp; rfl)) | refine LeftL.tkN 14 rfl HS.out ?_
      (intro K' hK'; go_simp; refine hK' _ ?_; clear hK' K')
      first | ((first | refine LeftL.tkF (v := ?_) 15 rfl HS.out ?_ ?_ | refine LeftL.tkG (v := ?_) 15 rfl HS.out ?_ ?_); rotate_left; (· intro V hV; obtain ⟨q0, q1, q2, q3, q4, q5, q6, q7⟩ := HFX.out V hV; clear hV; go_simp; rfl)) | refine LeftL.tkN 15 rfl HS.out ?_
      (intro K' hK'; go_simp; refine hK' _ ?_; clear hK' K')
      first | ((first | refine LeftL.tkF (v := ?_) 16 rfl HS.out ?_ ?_ | refine LeftL.tkG (v := ?_) 16 rfl HS.out ?_ ?_); rotate_left; (· intro V hV; obtain ⟨q0, q1, q2, q3, q4, q5, q6, q7⟩ := HFX.out V hV; clear hV; go_simp; rfl)) | refine LeftL.tkN 16 rfl HS.out ?_
      (intro K' hK'; go_simp; refine hK' _ ?_; clear hK' K')
      first | ((first | refine LeftL.tkF (v := ?_) 17 rfl HS.out ?_ ?_ | refine LeftL.tkG (v := ?_) 17 rfl HS.out ?_ ?_); rotate_left; (· intro V hV; obtain ⟨q0, q1, q2, q3, q4, q5, q6, q7⟩ := HFX.out V hV; clear hV; go_simp; rfl)) | refine LeftL.tkN 17 rfl HS.out ?_
      (intro K' hK'; go_simp; refine hK' _ ?_; clear hK' K')
      first | ((first | refine LeftL.tkF (v := ?_) 18 rfl HS.out ?_ ?_ | refine LeftL.tkG (v := ?_) 18 rfl HS.out ?_ ?_); rotate_left; (· intro V hV; obtain ⟨q0, q1, q2, q3, q4, q5, q6, q7⟩ := HFX.out V hV; clear hV; go_simp; rfl)) | refine LeftL.tkN 18 rfl HS.out ?_
      (intro K' hK'; go_simp; refine hK' _ ?_; clear hK' K')
      first | ((first | refine LeftL.tkF (v := ?_) 19 rfl HS.out ?_ ?_ | refine LeftL.tkG (v := ?_) 19 rfl HS.out ?_ ?_); rotate_left; (· intro V hV; obtain ⟨q0, q1, q2, q3, q4, q5, q6, q7⟩ := HFX.out V hV; clear hV; go_simp; rfl)) | refine LeftL.tkN 19 rfl HS.out ?_
      (intro K' hK'; go_simp; refine hK' _ ?_; clear hK' K')
      first | ((first | refine LeftL.tkF (v := ?_) 20 rfl HS.out ?_ ?_ | refine LeftL.tkG (v := ?_) 20 rfl HS.out ?_ ?_); rotate_left; (· intro V hV; obtain ⟨q0, q1, q2, q3, q4, q5, q6, q7⟩ := HFX.out V hV; clear hV; go_simp; rfl)) | refine LeftL.tkN 20 rfl HS.out ?_
      (intro K' hK'; go_simp; refine hK' _ ?_; clear hK' K')
      first | ((first | refine LeftL.tkF (v := ?_) 21 rfl HS.out ?_ ?_ | refine LeftL.tkG (v := ?_) 21 rfl HS.out ?_ ?_); rotate_left; (· intro V hV; obtain ⟨q0, q1, q2, q3, q4, q5, q6, q7⟩ := HFX.out V hV; clear hV; go_simp; rfl)) | refine LeftL.tkN 21 rfl HS.out ?_
      (intro K' hK'; go_simp; refine hK' _ ?_; clear hK' K')
      first | ((first | refine LeftL.tkF (v := ?_) 22 rfl HS.out ?_ ?_ | refine LeftL.tkG (v := ?_) 22 rfl HS.out ?_ ?_); rotate_left; (· intro V hV; obtain ⟨q0, q1, q2, q3, q4, q5, q6, q7⟩ := HFX.out V hV; clear hV; go_simp; rfl)) | refine LeftL.tkN 22 rfl HS.out ?_
      (intro K' hK'; go_simp; refine hK' _ ?_; clear hK' K')
      first | ((first | refine LeftL.tkF (v := ?_) 23 rfl HS.out ?_ ?_ | refine LeftL.tkG (v := ?_) 23 rfl HS.out ?_ ?_); rotate_left; (· intro V hV; obtain ⟨q0, q1, q2, q3, q4, q5, q6, q7⟩ := HFX.out V hV; clear hV; go_simp; rfl)) | refine LeftL.tkN 23 rfl HS.out ?_
      (intro K' hK'; go_simp; refine hK' _ ?_; clear hK' K')
      first | ((first | refine LeftL.tkF (v := ?_) 24 rfl HS.out ?_ ?_ | refine LeftL.tkG (v := ?_) 24 rfl HS.out ?_ ?_); rotate_left; (· intro V hV; obtain ⟨q0, q1, q2, q3, q4, q5, q6, q7⟩ := HFX.out V hV; clear hV; go_simp; rfl)) | refine LeftL.tkN 24 rfl HS.out ?_
      (intro K' hK'; go_simp; refine hK' _ ?_; clear hK' K')
      refine LeftL.done (by kernel_rfl) ?_
      have hct := HCT.out
      rw [ht] at hct
      dsimp only [Exit.then]
      refine wpIn_cond_false rfl ?_
      refine wpIn_skip ?_
      show KeepY (w1.heap.size + 2) _ _ _ _ ∧ _ ∧ SureJ w c pb f B _
      rw [← HNE.out]
      exact ⟨keepY_of HS.out HZ4.out (fun x hx _ => by cases hx) (fun x hx => by cases hx), by rw [hct]; rfl, E0.out.next HS.out (Nat.le_refl _) HCWW.out (by have := HZ4.out; omega) (fun x hx => by cases hx)⟩
    · go_wp2_with fail
      first | refine ⟨fun _ => HS.out, ?_⟩ | refine ⟨HS.out, ?_⟩
      first | ((first | refine LeftL.tkF (v := ?_) 10 rfl HS.out ?_ ?_ | refine LeftL.tkG (v := ?_) 10 rfl HS.out ?_ ?_); rotate_left; (· intro V hV; obtain ⟨q0, q1, q2, q3, q4, q5, q6, q7⟩ := HFX.out V hV; clear hV; go_simp; rfl)) | refine LeftL.tkN 10 rfl HS.out ?_
      (intro K' hK'; go_simp; refine hK' _ ?_; clear hK' K')
      first | ((first | refine LeftL.tkF (v := ?_) 11 rfl HS.out ?_ ?_ | refine LeftL.tkG (v := ?_) 11 rfl HS.out ?_ ?_); rotate_left; (· intro V hV; obtain ⟨q0, q1, q2, q3, q4, q5, q6, q7⟩ := HFX.out V hV; clear hV; go_simp; rfl)) | refine LeftL.tkN 11 rfl HS.out ?_
      (intro K' hK'; go_simp; refine hK' _ ?_; clear hK' K')
      first | ((first | refine LeftL.tkF (v := ?_) 12 rfl HS.out ?_ ?_ | refine LeftL.tkG (v := ?_) 12 rfl HS.out ?_ ?_); rotate_left; (· intro V hV; obtain ⟨q0, q1, q2, q3, q4, q5, q6, q7⟩ := HFX.out V hV; clear hV; go_simp; rfl)) | refine LeftL.tkN 12 rfl HS.out ?_
      (intro K' hK'; go_simp; refine hK' _ ?_; clear hK' K')
      first | ((first | refine LeftL.tkF (v := ?_) 13 rfl HS.out ?_ ?_ | refine LeftL.tkG (v := ?_) 13 rfl HS.out ?_ ?_); rotate_left; (· intro V hV; obtain ⟨q0, q1, q2, q3, q4, q5, q6, q7⟩ := HFX.out V hV; clear hV; go_simp; rfl)) | refine LeftL.tkN 13 rfl HS.out ?_
      (intro K' hK'; go_simp; refine hK' _ ?_; clear hK' K')
      first | ((first | refine LeftL.tkF (v := ?_) 14 rfl HS.out ?_ ?_ | refine LeftL.tkG (v := ?_) 14 rfl HS.out ?_ ?_); rotate_left; (· intro V hV; obtain ⟨q0, q1, q2, q3, q4, q5, q6, q7⟩ := HFX.out V hV; clear hV; go_simp; rfl)) | refine LeftL.tkN 14 rfl HS.out ?_
      (intro K' hK'; go_simp; refine hK' _ ?_; clear hK' K')
      first | ((first | refine LeftL.tkF (v := ?_) 15 rfl HS.out ?_ ?_ | refine LeftL.tkG (v := ?_) 15 rfl HS.out ?_ ?_); rotate_left; (· intro V hV; obtain ⟨q0, q1, q2, q3, q4, q5, q6, q7⟩ := HFX.out V hV; clear hV; go_simp; rfl)) | refine LeftL.tkN 15 rfl HS.out ?_
      (intro K' hK'; go_simp; refine hK' _ ?_; clear hK' K')
      first | ((first | refine LeftL.tkF (v := ?_) 16 rfl HS.out ?_ ?_ | refine LeftL.tkG (v := ?_) 16 rfl HS.out ?_ ?_); rotate_left; (· intro V hV; obtain ⟨q0, q1, q2, q3, q4, q5, q6, q7⟩ := HFX.out V hV; clear hV; go_simp; rfl)) | refine LeftL.tkN 16 rfl HS.out ?_
      (intro K' hK'; go_simp; refine hK' _ ?_; clear hK' K')
      first | ((first | refine LeftL.tkF (v := ?_) 17 rfl HS.out ?_ ?_ | refine LeftL.tkG (v := ?_) 17 rfl HS.out ?_ ?_); rotate_left; (· intro V hV; obtain ⟨q0, q1, q2, q3, q4, q5, q6, q7⟩ := HFX.out V hV; clear hV; go_simp; rfl)) | refine LeftL.tkN 17 rfl HS.out ?_
      (intro K' hK'; go_simp; refine hK' _ ?_; clear hK' K')
      first | ((first | refine LeftL.tkF (v := ?_) 18 rfl HS.out ?_ ?_ | refine LeftL.tkG (v := ?_) 18 rfl HS.out ?_ ?_); rotate_left; (· intro V hV; obtain ⟨q0, q1, q2, q3, q4, q5, q6, q7⟩ := HFX.out V hV; clear hV; go_simp; rfl)) | refine LeftL.tkN 18 rfl HS.out ?_
      (intro K' hK'; go_simp; refine hK' _ ?_; clear hK' K')
      first | ((first | refine LeftL.tkF (v := ?_) 19 rfl HS.out ?_ ?_ | refine LeftL.tkG (v := ?_) 19 rfl HS.out ?_ ?_); rotate_left; (· intro V hV; obtain ⟨q0, q1, q2, q3, q4, q5, q6, q7⟩ := HFX.out V hV; clear hV; go_simp; rfl)) | refine LeftL.tkN 19 rfl HS.out ?_
      (intro K' hK'; go_simp; refine hK' _ ?_; clear hK' K')
      first | ((first | refine LeftL.tkF (v := ?_) 20 rfl HS.out ?_ ?_ | refine LeftL.tkG (v := ?_) 20 rfl HS.out ?_ ?_); rotate_left; (· intro V hV; obtain ⟨q0, q1, q2, q3, q4, q5, q6, q7⟩ := HFX.out V hV; clear hV; go_simp; rfl)) | refine LeftL.tkN 20 rfl HS.out ?_
      (intro K' hK'; go_simp; refine hK' _ ?_; clear hK' K')
      first | ((first | refine LeftL.tkF (v := ?_) 21 rfl HS.out ?_ ?_ | refine LeftL.tkG (v := ?_) 21 rfl HS.out ?_ ?_); rotate_left; (· intro V hV; obtain ⟨q0, q1, q2, q3, q4, q5, q6, q7⟩ := HFX.out V hV; clear hV; go_simp; rfl)) | refine LeftL.tkN 21 rfl HS.out ?_
      (intro K' hK'; go_simp; refine hK' _ ?_; clear hK' K')
      refine LeftL.one 22 rfl (by kernel_rfl) ?_
      go_wp2_with fail
      refine (HANY.out W4.drew (HPLW.out.frm HS.out (Nat.le_refl _)) (HS.out.blk E0.out.k1 E0.out.k1.lt (by simp)) (HGLW.out.frm HS.out (Nat.le_refl _))).mono ?_; rintro e w5 ⟨rfl, hf1⟩
      have hS1 := HS.out.call hf1 HS.out.size (by simp)
      have hct := HCT.out
      rw [ht] at hct
      obtain ⟨an, han⟩ : ∃ r, r = anyA P f (bitsOf P.n (P.after j &&& B)) := ⟨_, rfl⟩
      rw [← han] at hct ⊢
      clear hf1 HS han
      have HS := Lib.hid hS1
      have HCTT := Lib.hid hct
      clear hct hS1
      go_wp2_with fail
      first | refine ⟨fun _ => HS.out, ?_⟩ | refine ⟨HS.out, ?_⟩
      first | ((first | refine LeftL.tkF (v := ?_) 23 rfl HS.out ?_ ?_ | refine LeftL.tkG (v := ?_) 23 rfl HS.out ?_ ?_); rotate_left; (· intro V hV; obtain ⟨q0, q1, q2, q3, q4, q5, q6, q7⟩ := HFX.out V hV; clear hV; go_simp; rfl)) | refine LeftL.tkN 23 rfl HS.out ?_
      (intro K' hK'; go_simp; refine hK' _ ?_; clear hK' K')
      first | ((first | refine LeftL.tkF (v := ?_) 24 rfl HS.out ?_ ?_ | refine LeftL.tkG (v := ?_) 24 rfl HS.out ?_ ?_); rotate_left; (· intro V hV; obtain ⟨q0, q1, q2, q3, q4, q5, q6, q7⟩ := HFX.out V hV; clear hV; go_simp; rfl)) | refine LeftL.tkN 24 rfl HS.out ?_
      (intro K' hK'; go_simp; refine hK' _ ?_; clear hK' K')
      refine LeftL.done (by kernel_rfl) ?_
      have hkp : KeepY (N + 2) [c + 1 + 1 + 1] A0.heap.size W4 w5 := keepY_of HS.out HZ4.out (fun x hx _ => by cases hx) (fun x hx => by cases hx)
      have g0 := E0.out.next HS.out (Nat.le_refl _) HCWW.out (by have := HZ4.out; omega) (fun x hx => by cases hx)
      have hlt5 : W4.heap.size ≤ w5.heap.size := HS.out.size
      dsimp only [Exit.then]
      cases an
      · refine wpIn_cond_true rfl ?_
        refine wpIn_seq ?_
        have c3 := g0.k3.cell 0
        have f3 := g0.k3.free 0
        clear HS E0 HFX HANY HPLW HGLW
        have HKP := Lib.hid hkp
        have G0 := Lib.hid g0
        have HLT5 := Lib.hid hlt5
        clear hlt5 g0 hkp
        refine regionIn_of (noOut (noOutB noOutR)) rfl ?_
        go_wp2_with fail
        refine wpIn_ret ?_
        show KeepY (w1.heap.size + 2) _ _ _ _ ∧ _ ∧ SureX w c i _
        rw [← HNE.out]
        have hF6 : Frm w5.heap.size [c + 1 + 1 + 1] w5 (w5.setCell ⟨c + 1 + 1 + 1, 0, none⟩ (.bool false)) := (Frm.refl _ _ w5).setCell (p := ⟨c + 1 + 1 + 1, 0, none⟩) (.inl (by simp)) _
        have hcs := HZA.out
        have hz4 := HZ4.out
        have hl5 := HLT5.out
        refine ⟨HKP.out.trans (keepY_of hF6 (by omega) (fun x hx _ => hx) (fun x hx => by simp at hx; omega)), by rw [HCTT.out]; rfl, ?_, G0.out.k3.set 0 (.bool false)⟩
        exact G0.out.fr.setCell (p := ⟨c + 1 + 1 + 1, 0, none⟩) (.inr (by dsimp only; have := HC.out; omega)) _
      · refine wpIn_cond_false rfl ?_
        refine wpIn_skip ?_
        show KeepY (w1.heap.size + 2) _ _ _ _ ∧ _ ∧ SureJ w c pb f B _
        rw [← HNE.out]
        exact ⟨hkp, by rw [HCTT.out]; rfl, g0⟩
  case hdone =>
    intro W2 hall j0 hD
    rw [← HNE.out] at hD ⊢
    have c3 := j0.k3.cell 0
    have f3 := j0.k3.free 0
    have hyes := allS_yes hall
    have hsu := HSU.out
    rw [← HAA.out] at hsu
    rw [hyes] at hsu
    clear hyes
    have HD := Lib.hid hD
    have J0 := Lib.hid j0
    have HSU2 := Lib.hid hsu
    clear hsu j0 hD
    dsimp only [Exit.inBlock, Exit.then]
    go_wp2_with fail
    have hF6 : Frm W2.heap.size [c + 1 + 1 + 1] W2 (W2.setCell ⟨c + 1 + 1 + 1, 0, none⟩ (.bool true)) := (Frm.refl _ _ W2).setCell (p := ⟨c + 1 + 1 + 1, 0, none⟩) (.inl (by simp)) _
    have hND : N < W2.heap.size := (Array.getElem?_eq_some_iff.1 HD.out).1
    have hD6 := (hF6.block N hND (by simp; omega)).trans HD.out
    have b6 := J0.out.k3.set 0 (.bool true)
    have f6 : Frm w.heap.size [] w (W2.setCell ⟨c + 1 + 1 + 1, 0, none⟩ (.bool true)) := J0.out.fr.setCell (p := ⟨c + 1 + 1 + 1, 0, none⟩) (.inr (by dsimp only; have := HC.out; omega)) _
    generalize W2.setCell ⟨c + 1 + 1 + 1, 0, none⟩ (.bool true) = W3 at hD6 b6 f6 ⊢
    refine ⟨by simp, .inl ⟨_, _, rfl, run_takeDeferred hD6, ?_⟩⟩
    refine ⟨_, results_bool Tryd.results72 (b := c + 1 + 1 + 1) (T := 4) (x := true) ((World.putObj_heap_other (by omega)).trans b6) rfl, ?_⟩
    exact ⟨by rw [HSU2.out]; rfl, f6.putObj (.inr hwN) _⟩
  case hstop =>
    rintro i W2 ⟨hi, hct⟩ ⟨j0, j3⟩ hD
    rw [← HNE.out] at hD ⊢
    have hno := allS_no hi hct
    have hsu := HSU.out
    rw [← HAA.out] at hsu
    rw [hno] at hsu
    dsimp only [Exit.inBlock, Exit.then]
    refine ⟨by simp, .inl ⟨_, _, rfl, run_takeDeferred hD, ?_⟩⟩
    refine ⟨_, results_bool Tryd.results72 (b := c + 1 + 1 + 1) (T := 4) (x := false) ((World.putObj_heap_other (by omega)).trans j3) rfl, ?_⟩
    exact ⟨by rw [hsu]; rfl, j0.putObj (.inr hwN) _⟩
end Go.Proofs.YtfmigicmfolbjaaDoor
