/-
  Does a book tell the document's? Other places for all places of a list.
-/
import Derived.Test.YthgmdilfmeefiaaJ58
namespace Go.Proofs.Ythgmdilfmeefiaa
set_option linter.all false
set_option linter.unusedSimpArgs false
set_option linter.unusedVariables false
open Go.RowKit

theorem stepI {i : Int} {n : Nat} (h0 : -1 ≤ i) (h1 : i ≤ (n : Int)) (hn : n ≤ 500) : IntKind.i64.wrap (i + 1) = i + 1 ∧ wrap64 (i + 1) = i + 1 :=
  ⟨IntWalk.i64_in _ (by omega), IntWalk.wrap64_in _ (by omega)⟩
theorem measI {i : Int} {n : Nat} (h0 : -1 ≤ i) (h1 : i ≤ (n : Int)) : ((n : Int) + 1 - intOf (.int .i64 (i + 1))).toNat < ((n : Int) + 1 - intOf (.int .i64 i)).toNat := by
  simp only [intOf]
  omega
theorem miss_len {s : BS} (h : BInv s) (i : Int) : (missL s i).length ≤ 500 := by
  rw [miss_of]
  exact Nat.le_trans (List.length_filter_le _ _) (of_len h i)
set_option maxRecDepth 100000 in
set_option maxHeartbeats 8000000 in
theorem spoil_any (ad : Option Addr) (n cap : Nat) (cs : List Value) (own : Option Nat) (w : World) (hs : Sl w 71 2 (.slice ad n cap) n cs own) :
    Calls Try.prog 24 #[.slice ad n cap] w fun e w' => (∃ v, e = .returned v) ∧ Frm w.heap.size own.toList w w' := by
  have hf0 := Try.func24
  have hlen := hs.n_le
  obtain ⟨a', c', b, off, he, ha, ho, hth⟩ := hs.place
  cases he
  have hBb : 0 < n → b ∈ own.toList := fun h => by rw [ho h]; simp
  have HS := Lib.hid hs
  have HA := Lib.hid ha
  have HO := Lib.hid ho
  have HTH := Lib.hid hth
  have HBB := Lib.hid hBb
  clear hBb hth ho ha hs
  go_enter Try.func24, Try.ntmps24
  go_wp2_with fail
  go_loopw [2] (fun s2 wr => ∃ i : Nat, s2 = .int .i64 i ∧ i ≤ n ∧ wr.there b off (n * 2) ∧ Frm w.heap.size own.toList w wr) (fun s2 _ => n - (intOf s2).toNat)
  case atStart => exact ⟨0, rfl, Nat.zero_le _, HTH.out, Frm.refl _ _ _⟩
  case round =>
    obtain ⟨i, rfl, hi, hth, hfr⟩ := hrel
    by_cases hin : i < n
    rotate_left
    · have hin' : ¬ (i : Int) < (n : Int) := by omega
      clear hth
      have HFR := Lib.hid hfr
      clear hfr
      go_wp2_with fail
      go_end0
      exact ⟨⟨_, rfl⟩, HFR.out⟩
    have hin' : (i : Int) < (n : Int) := by omega
    obtain ⟨w4, w5⟩ := wrapUp hin hlen
    have hms := meas_up hin
    have had := HA.out (by omega)
    subst had
    have hth1 : wr.there b (off + i * 2) 2 := fun j hj => by
      have := hth (i * 2 + j) (by omega)
      rw [← Nat.add_assoc] at this
      exact this
    have HFR := Lib.hid hfr
    have HIN := Lib.hid hin
    have HMS := Lib.hid hms
    have HTR := Lib.hid hth
    have HT1 := Lib.hid hth1
    clear hth1 hth hms hin hfr
    go_wp2_with (with_reducible refine atStore 71 rfl ?_; refine stop_ ?_)
    refine go_on ?_
    refine wpList_store_mid rfl 71 _ _ rfl b (off + i * 2) #[.int .i64 1073741824, .int .i64 0] rfl rfl HT1.out info71 (by simp [Value.oneCell']) ?_
    have hth2 := World.there_setCells HTR.out b (off + i * 2) #[Value.int .i64 1073741824, .int .i64 0].toList
    have hfr2 : Frm w.heap.size own.toList w (wr.setCells b (off + i * 2) #[Value.int .i64 1073741824, .int .i64 0].toList) :=
      (HFR.out.setCell (p := ⟨b, off + i * 2, none⟩) (.inl (HBB.out (Nat.lt_of_le_of_lt (Nat.zero_le _) HIN.out))) (.int .i64 1073741824)).setCell (p := ⟨b, off + i * 2 + 1, none⟩) (.inl (HBB.out (Nat.lt_of_le_of_lt (Nat.zero_le _) HIN.out))) (.int .i64 0)
    generalize World.setCells _ _ _ _ = wN at hth2 hfr2 ⊢
    clear HTR HFR HT1
    dsimp only [Act.put]
    have HT2 := Lib.hid hth2
    have HFR := Lib.hid hfr2
    clear hfr2 hth2
    go_wp2_with fail
    exact ⟨⟨i + 1, by simp [w4, w5], HIN.out, HT2.out, HFR.out⟩, HMS.out⟩
set_option maxRecDepth 100000 in
set_option maxHeartbeats 8000000 in
theorem alike_any {w : World} {k : Nat} {s : BS} {m : Mem} {mr : RMem} (h : BookAt w k s m) (hr : RefAt w s mr) :
    Calls Try.prog 23 #[.pointer (some ⟨k, 0, none⟩), .agg (refC s mr).toArray] w fun e w' => e = .returned (.bool true) ∧ Frm w.heap.size [] w w' := by
  have hf0 := Try.func23
  obtain ⟨C, hC⟩ : ∃ c, c = refC s mr := ⟨_, rfl⟩
  have hc6 : C.length = 6 := by rw [hC]; rfl
  obtain ⟨n, hn⟩ : ∃ n, n = s.reps.length := ⟨_, rfl⟩
  have hnm : n ≤ 500 := by rw [hn]; exact h.inv.max.1
  obtain ⟨no, hno⟩ : ∃ n, n = s.opn.length := ⟨_, rfl⟩
  have hnom : no ≤ 500 := by have := h.inv.opn; have := h.inv.max.1; omega
  have hg2 : C[2]? = some (.slice mr.ra n mr.rc) := by rw [hC, hn]; rfl
  have hg3 : C[3]? = some (.slice mr.oa n mr.oc) := by rw [hC, hn]; rfl
  have hg4 : C[4]? = some (.slice mr.pa no mr.pc) := by rw [hC, hno]; rfl
  have h18 : ∀ V, Frm w.heap.size [] w V → Calls Try.prog 18 #[.pointer (some ⟨k, 0, none⟩)] V fun e w' => ∃ v, e = .returned v ∧ Ints V w' v (openL s) ∧ Frm V.heap.size [] V w' := fun V hV => open_call (h.still hV)
  have h47 : ∀ V, Frm w.heap.size [] w V → Calls Try.prog 47 #[.agg C.toArray] V fun e w' => ∃ v, e = .returned v ∧ Ints V w' v (openL s) ∧ Frm V.heap.size [] V w' := fun V hV => by rw [hC]; exact refOpened_any (hr.still hV)
  have h16 : ∀ V i, Frm w.heap.size [] w V → Calls Try.prog 16 #[.pointer (some ⟨k, 0, none⟩), .int .i64 i] V fun e w' => ∃ v, e = .returned (.tuple #[v, .int .i64 (reportsS s i).2]) ∧ Ints V w' v (reportsS s i).1 ∧ Frm V.heap.size [] V w' := fun V i hV => reports_call (h.still hV) i
  have h48 : ∀ V i, Frm w.heap.size [] w V → Calls Try.prog 48 #[.agg C.toArray, .int .i64 i] V fun e w' => ∃ v, e = .returned (.tuple #[v, .int .i64 (reportsS s i).2]) ∧ Ints V w' v (reportsS s i).1 ∧ Frm V.heap.size [] V w' := fun V i hV => by rw [hC]; exact refReports_any (hr.still hV) i
  have h19 : ∀ V i, Frm w.heap.size [] w V → Calls Try.prog 19 #[.pointer (some ⟨k, 0, none⟩), .int .i64 i] V fun e w' => ∃ v, e = .returned (.tuple #[v, .int .i64 (missingS s i).2]) ∧ Ints V w' v (missingS s i).1 ∧ Frm V.heap.size [] V w' := fun V i hV => missing_call (h.still hV) i
  have h49 : ∀ V i, Frm w.heap.size [] w V → Calls Try.prog 49 #[.agg C.toArray, .int .i64 i] V fun e w' => ∃ v, e = .returned (.tuple #[v, .int .i64 (missingS s i).2]) ∧ Ints V w' v (missingS s i).1 ∧ Frm V.heap.size [] V w' := fun V i hV => by rw [hC]; exact refMissing_any (hr.still hV) i
  have hol : (openL s).length ≤ 1000 := Nat.le_trans (open_len h.inv) (by decide)
  have hrl : ∀ i, (reportsS s i).1.length ≤ 1000 := fun i => by unfold reportsS; split; exact Nat.le_trans (of_len h.inv i) (by decide); exact Nat.zero_le _
  have hml : ∀ i, (missingS s i).1.length ≤ 1000 := fun i => by unfold missingS; split; exact Nat.le_trans (miss_len h.inv i) (by decide); exact Nat.zero_le _
  rw [← hC]
  have HH := Lib.hid h
  have HREF := Lib.hid hr
  have HC := Lib.hid hC
  have HC6 := Lib.hid hc6
  have HN := Lib.hid hn
  have HNM := Lib.hid hnm
  have HNO := Lib.hid hno
  have HNOM := Lib.hid hnom
  have HG2 := Lib.hid hg2
  have HG3 := Lib.hid hg3
  have HG4 := Lib.hid hg4
  have H18 := Lib.hid h18
  have H47 := Lib.hid h47
  have H16 := Lib.hid h16
  have H48 := Lib.hid h48
  have H19 := Lib.hid h19
  have H49 := Lib.hid h49
  have HOL := Lib.hid hol
  have HRL := Lib.hid hrl
  have HML := Lib.hid hml
  clear hml hrl hol h49 h19 h48 h16 h47 h18 hg4 hg3 hg2 hnom hno hnm hn hc6 hC hr h
  go_enter Try.func23, Try.ntmps23
  go_upto_region 1 with fail
  refine namedC ?_; intro W hW
  have kb : Blk W w.heap.size 55 C := by rw [hW]; exact Blk.new w 55 C
  have hf : Frm w.heap.size [] w W := by rw [hW]; repeat (first | with_reducible exact Frm.refl _ _ _ | with_reducible refine Frm.drewN ?_ | with_reducible refine Frm.drew ?_ | ((with_reducible refine Frm.setCell' ?_ ?_); · first | (left; simp; done) | (right; simp; done) | (right; simp; omega)) | ((with_reducible refine Frm.alloc' ?_ ?_); · first | exact Nat.le_refl _ | (simp; done) | (simp; omega)))
  clear hW hf0
  have hfx : ∀ V, Frm W.heap.size [] W V → True ∧ True := fun V hV => ⟨trivial, trivial⟩
  have hkb : ∀ V, Frm W.heap.size [] W V → Blk V w.heap.size 55 C := fun V hV => hV.blk kb kb.lt (by simp)
  have hl55 : ∀ V, Frm W.heap.size [] W V → (loadVar 55 ⟨w.heap.size, 0, none⟩).run Try.prog V = .ok (.agg C.toArray) V := fun V hV => load55 (hkb V hV) HC6.out
  have hend : ∀ V, Frm W.heap.size [] W V → Frm w.heap.size [] w V := fun V hV => hf.call hV hf.size (by simp)
  clear kb hf
  have HFX := Lib.hid hfx
  have HKB := Lib.hid hkb
  have HL55 := Lib.hid hl55
  have HEND := Lib.hid hend
  clear hend hl55 hkb hfx
  refine wp_region_leftL (fun V => Frm W.heap.size [] W V) 1000 (by kernel_rfl) ?_
  have hS : Frm W.heap.size [] W W.drew := (Frm.refl _ _ W).drew
  have HS := Lib.hid hS
  clear hS
  first | (refine LeftL.tkG (v := ?_) 0 rfl HS.out ?_ ?_; rotate_left; · intro V hV; obtain ⟨z1, z2⟩ := HFX.out V hV; clear hV; go_simp; rfl) | refine LeftL.tkN 0 rfl HS.out ?_
  (intro K h; go_simp; refine h _ ?_; clear h K)
  refine LeftL.take 2 rfl (by kernel_rfl) (fun _ _ d _ _ h => by cases d <;> exact h) (yields_loadE (ty := 55) rfl rfl rfl (HL55.out)) HS.out ?_; (intro K' hK'; go_simp; refine hK' _ ?_; clear hK' K')
  refine LeftL.one 1 rfl (by kernel_rfl) ?_
  go_wp2_with fail
  refine (H18.out _ (HEND.out _ HS.out)).mono ?_; rintro e w1 ⟨v1, rfl, hin1, hf1⟩
  have hS1 := HS.out.call hf1 HS.out.size (by simp)
  clear hf1 HS
  have HS := Lib.hid hS1
  have HIN1 := Lib.hid hin1
  clear hin1 hS1
  go_wp2_with fail
  first | refine ⟨fun _ => HS.out, ?_⟩ | refine ⟨HS.out, ?_⟩
  refine LeftL.one 3 rfl (by kernel_rfl) ?_
  go_wp2_with fail
  refine (H47.out _ (HEND.out _ HS.out)).mono ?_; rintro e w2 ⟨v2, rfl, hin2, hf1⟩
  have hS1 := HS.out.call hf1 HS.out.size (by simp)
  have hin1 := HIN1.out.call hf1
  clear hf1 HS HIN1
  have HS := Lib.hid hS1
  have HIN1 := Lib.hid hin1
  have HIN2 := Lib.hid hin2
  clear hin2 hin1 hS1
  go_wp2_with fail
  first | refine ⟨fun _ => HS.out, ?_⟩ | refine ⟨HS.out, ?_⟩
  refine LeftL.one 4 rfl (by kernel_rfl) ?_
  go_wp2_with fail
  refine (refInts_any HIN1.out HIN2.out HOL.out).mono ?_; rintro e w3 ⟨rfl, hf1⟩
  have hS1 := HS.out.call hf1 HS.out.size (by simp)
  clear hf1 HS HIN1 HIN2
  have HS := Lib.hid hS1
  clear hS1
  go_wp2_with fail
  first | refine ⟨fun _ => HS.out, ?_⟩ | refine ⟨HS.out, ?_⟩
  refine LeftL.one 5 rfl (by kernel_rfl) ?_
  go_wp2_with fail
  first | refine ⟨fun _ => HS.out, ?_⟩ | refine ⟨HS.out, ?_⟩
  refine LeftL.done (by kernel_rfl) ?_
  have hf := HS.out
  clear HS HFX
  have HF := Lib.hid hf
  clear hf
  go_wp2_with fail
  go_loopw [5] (fun s5 wr => ∃ i : Int, s5 = .int .i64 i ∧ -1 ≤ i ∧ i ≤ (no : Int) + 1 ∧ Frm W.heap.size [] W wr) (fun s5 _ => ((no : Int) + 1 - intOf s5).toNat)
  case atStart => exact ⟨-1, rfl, by omega, by omega, HF.out⟩
  case round =>
    clear HF
    obtain ⟨i, rfl, hi0, hi1, hf⟩ := hrel
    have c4 : wr.cell? ⟨w.heap.size, 4, none⟩ = some (.slice mr.pa no mr.pc) := ((HKB.out wr hf).cell 4).trans HG4.out
    by_cases hil : i ≤ (no : Int)
    · obtain ⟨y4, y5⟩ := stepI hi0 hil HNOM.out
      have hms := measI hi0 hil
      obtain ⟨e1, he1⟩ : ∃ c, c = (reportsS s i).2 := ⟨_, rfl⟩
      obtain ⟨e2, he2⟩ : ∃ c, c = (missingS s i).2 := ⟨_, rfl⟩
      obtain ⟨L1, hL1⟩ : ∃ c, c = (reportsS s i).1 := ⟨_, rfl⟩
      obtain ⟨L2, hL2⟩ : ∃ c, c = (missingS s i).1 := ⟨_, rfl⟩
      have h16 := fun V hV => H16.out V i hV
      have h48 := fun V hV => H48.out V i hV
      have h19 := fun V hV => H19.out V i hV
      have h49 := fun V hV => H49.out V i hV
      have hrl := HRL.out i
      have hml := HML.out i
      simp only [← he1, ← hL1] at h16 h48
      simp only [← he2, ← hL2] at h19 h49
      rw [← hL1] at hrl
      rw [← hL2] at hml
      clear he1 he2 hL1 hL2
      have HF := Lib.hid hf
      have HI0 := Lib.hid hi0
      have HI1 := Lib.hid hi1
      have HMS := Lib.hid hms
      have H16I := Lib.hid h16
      have H48I := Lib.hid h48
      have H19I := Lib.hid h19
      have H49I := Lib.hid h49
      have HRLI := Lib.hid hrl
      have HMLI := Lib.hid hml
      clear hml hrl h49 h19 h48 h16 hms hi1 hi0 hf
      go_wp2_with fail
      refine (H16I.out wr (HEND.out _ HF.out)).mono ?_; rintro e V1 ⟨v1, rfl, hin1, hf1⟩
      have hf := HF.out.call hf1 HF.out.size (by simp)
      clear hf1 HF c4
      have HF := Lib.hid hf
      have HIN1 := Lib.hid hin1
      clear hin1 hf
      go_wp2_with (with_reducible refine atLoad 55 rfl ?_; refine wpList_loadE rfl rfl rfl (HL55.out _ HF.out) ?_)
      refine (H48I.out V1 (HEND.out _ HF.out)).mono ?_; rintro e V2 ⟨v2, rfl, hin2, hf1⟩
      have hf := HF.out.call hf1 HF.out.size (by simp)
      have hin1 := HIN1.out.call hf1
      clear hf1 HF HIN1
      have HF := Lib.hid hf
      have HIN1 := Lib.hid hin1
      have HIN2 := Lib.hid hin2
      clear hin2 hin1 hf
      go_wp2_with fail
      refine (H19I.out V2 (HEND.out _ HF.out)).mono ?_; rintro e V3 ⟨v3, rfl, hin3, hf1⟩
      have hf := HF.out.call hf1 HF.out.size (by simp)
      have hin1 := HIN1.out.call hf1
      have hin2 := HIN2.out.call hf1
      clear hf1 HF HIN1 HIN2
      have HF := Lib.hid hf
      have HIN1 := Lib.hid hin1
      have HIN2 := Lib.hid hin2
      have HIN3 := Lib.hid hin3
      clear hin3 hin2 hin1 hf
      go_wp2_with (with_reducible refine atLoad 55 rfl ?_; refine wpList_loadE rfl rfl rfl (HL55.out _ HF.out) ?_)
      refine (H49I.out V3 (HEND.out _ HF.out)).mono ?_; rintro e V4 ⟨v4, rfl, hin4, hf1⟩
      have hf := HF.out.call hf1 HF.out.size (by simp)
      have hin1 := HIN1.out.call hf1
      have hin2 := HIN2.out.call hf1
      have hin3 := HIN3.out.call hf1
      clear hf1 HF HIN1 HIN2 HIN3
      have HF := Lib.hid hf
      have HIN1 := Lib.hid hin1
      have HIN2 := Lib.hid hin2
      have HIN3 := Lib.hid hin3
      have HIN4 := Lib.hid hin4
      clear hin4 hin3 hin2 hin1 hf
      go_wp2_with fail
      refine (refInts_any HIN1.out HIN2.out HRLI.out).mono ?_; rintro e V5 ⟨rfl, hf1⟩
      have hf := HF.out.call hf1 HF.out.size (by simp)
      have hin3 := HIN3.out.call hf1
      have hin4 := HIN4.out.call hf1
      clear hf1 HF HIN1 HIN2 HIN3 HIN4
      have HF := Lib.hid hf
      have HIN3 := Lib.hid hin3
      have HIN4 := Lib.hid hin4
      clear hin4 hin3 hf
      go_wp2_with fail
      refine (refInts_any HIN3.out HIN4.out HMLI.out).mono ?_; rintro e V6 ⟨rfl, hf1⟩
      have hf := HF.out.call hf1 HF.out.size (by simp)
      clear hf1 HF HIN3 HIN4
      have HF := Lib.hid hf
      clear hf
      go_wp2_with fail
      exact ⟨⟨i + 1, by simp [y4, y5], by have := HI0.out; omega, by omega, HF.out⟩, HMS.out⟩
    have HF := Lib.hid hf
    clear hf
    go_wp2_with fail
    clear c4
    go_loopw [14] (fun s14 wq => ∃ i : Int, s14 = .int .i64 i ∧ -1 ≤ i ∧ i ≤ (n : Int) + 1 ∧ Frm W.heap.size [] W wq) (fun s14 _ => ((n : Int) + 1 - intOf s14).toNat)
    case atStart => exact ⟨-1, rfl, by omega, by omega, HF.out⟩
    case round =>
      clear HF hil hi0 hi1
      obtain ⟨j, rfl, hj0, hj1, hf⟩ := hrel
      have c2 : wr.cell? ⟨w.heap.size, 2, none⟩ = some (.slice mr.ra n mr.rc) := ((HKB.out wr hf).cell 2).trans HG2.out
      by_cases hjl : j ≤ (n : Int)
      rotate_left
      · have hf := HEND.out _ hf
        have HF := Lib.hid hf
        clear hf
        go_wp2_with fail
        go_ret
        exact ⟨rfl, HF.out⟩
      obtain ⟨y4, y5⟩ := stepI hj0 hjl HNM.out
      have hms := measI hj0 hjl
      have hrp := report_call (HH.out.still (HEND.out _ hf)) j
      by_cases hin : inB j 0 ((s.reps.length : Int) - 1) = true
      rotate_left
      · have hout : j < 0 ∨ (¬ j < 0 ∧ j = (n : Int)) := by
          have := HN.out
          unfold inB at hin
          simp only [Bool.and_eq_true, decide_eq_true_eq, not_and] at hin
          omega
        simp only [if_neg hin] at hrp
        clear hin
        have HF := Lib.hid hf
        have HJ0 := Lib.hid hj0
        have HMS := Lib.hid hms
        have HRP := Lib.hid hrp
        clear hrp hms hj0 hf
        rcases hout with h1 | ⟨h1, h2⟩
        · go_wp2_with fail
          refine HRP.out.mono ?_; rintro e U ⟨rfl, hf1⟩
          have hf := HF.out.call hf1 HF.out.size (by simp)
          clear hf1 HF HRP c2
          have HF := Lib.hid hf
          clear hf
          go_wp2_with (with_reducible refine atStore 24 rfl ?_; refine stop_ ?_)
          refine go_on ?_
          refine wpList_storeNew (P := Try.prog) (cs := zeroR) rfl rfl rfl rfl rfl info24 (by simp [zeroR, Value.oneCell']) ?_
          intro U1 hf1 k6 hz; clear hz
          dsimp only [Act.put]
          obtain ⟨p6, hp6⟩ : ∃ p, p = U.heap.size := ⟨_, rfl⟩
          rw [← hp6] at k6 ⊢
          have hf := HF.out.call hf1 HF.out.size (by simp)
          clear k6
          clear hp6 hf1 HF
          have HF := Lib.hid hf
          clear hf
          go_wp2_with fail
          exact ⟨⟨j + 1, by simp [y4, y5], by have := HJ0.out; omega, by omega, HF.out⟩, HMS.out⟩
        · subst h2
          go_wp2_with fail
          refine HRP.out.mono ?_; rintro e U ⟨rfl, hf1⟩
          have hf := HF.out.call hf1 HF.out.size (by simp)
          clear hf1 HF HRP c2
          have HF := Lib.hid hf
          clear hf
          go_wp2_with (with_reducible refine atStore 24 rfl ?_; refine stop_ ?_)
          refine go_on ?_
          refine wpList_storeNew (P := Try.prog) (cs := zeroR) rfl rfl rfl rfl rfl info24 (by simp [zeroR, Value.oneCell']) ?_
          intro U1 hf1 k6 hz; clear hz
          dsimp only [Act.put]
          obtain ⟨p6, hp6⟩ : ∃ p, p = U.heap.size := ⟨_, rfl⟩
          rw [← hp6] at k6 ⊢
          have hf := HF.out.call hf1 HF.out.size (by simp)
          clear k6
          clear hp6 hf1 HF
          have HF := Lib.hid hf
          clear hf
          have c2 : U1.cell? ⟨w.heap.size, 2, none⟩ = some (.slice mr.ra n mr.rc) := ((HKB.out U1 HF.out).cell 2).trans HG2.out
          go_wp2_with fail
          exact ⟨⟨(n : Int) + 1, by simp [y4, y5], by have := HJ0.out; omega, by omega, HF.out⟩, HMS.out⟩
      simp only [if_pos hin] at hrp
      obtain ⟨x, rfl, hx⟩ : ∃ x : Nat, j = (x : Int) ∧ x < n := by
        have := HN.out
        unfold inB at hin
        simp only [Bool.and_eq_true, decide_eq_true_eq] at hin
        exact ⟨j.toNat, by omega, by omega⟩
      rw [Int.toNat_natCast] at hrp
      have hx0 : ¬ (x : Int) < 0 := by omega
      have hxe : ((x : Int) == (n : Int)) = false := by simp; omega
      have hxe2 : ¬ (x : Int) = (n : Int) := by omega
      have hxl : (x : Int) < (n : Int) := by omega
      have hxr : x < s.reps.length := by rw [← HN.out]; exact hx
      obtain ⟨r, hrr⟩ : ∃ r, r = s.rp x := ⟨_, rfl⟩
      obtain ⟨ov, hov⟩ : ∃ o, o = (s.o x : Int) := ⟨_, rfl⟩
      rw [← hrr, ← hov] at hrp
      have hra := HREF.out.reps.ad (by omega)
      have hoa := HREF.out.of.ad (by omega)
      have hg2 := HG2.out
      have hg3 := HG3.out
      rw [hra] at hg2
      rw [hoa] at hg3
      rw [hra] at c2
      clear hin hra hoa
      have HF := Lib.hid hf
      have HJ0 := Lib.hid hj0
      have HMS := Lib.hid hms
      have HRP := Lib.hid hrp
      have HX := Lib.hid hx
      have HXR := Lib.hid hxr
      have HRR := Lib.hid hrr
      have HOV := Lib.hid hov
      have HGA := Lib.hid hg2
      have HGB := Lib.hid hg3
      clear hg3 hg2 hov hrr hxr hx hrp hms hj0 hf
      go_wp2_with fail
      refine HRP.out.mono ?_; rintro e U ⟨⟨rb, ro, rc, rfl, hslp, hge⟩, hf1⟩
      have hf := HF.out.call hf1 HF.out.size (by simp)
      have hrw := (SlP.rw rfl hslp).1
      clear hf1 HF HRP c2 hslp hge
      have HRW := Lib.hid hrw
      clear hrw
      have HF := Lib.hid hf
      clear hf
      go_wp2_with (with_reducible refine atStore 24 rfl ?_; refine stop_ ?_)
      refine go_on ?_
      refine wpList_storeNew (P := Try.prog) (cs := (repC r (some ⟨rb, ro, none⟩) rc)) rfl rfl rfl rfl rfl info24 (by simp [repC, Value.oneCell']) ?_
      intro U1 hf1 k6 hz; clear hz
      dsimp only [Act.put]
      obtain ⟨p6, hp6⟩ : ∃ p, p = U.heap.size := ⟨_, rfl⟩
      rw [← hp6] at k6 ⊢
      have hf := HF.out.call hf1 HF.out.size (by simp)
      have hrw1 := HRW.out.frm hf1 (Nat.le_refl _)
      clear HRW
      have K6 := Lib.hid k6
      have HRW1 := Lib.hid hrw1
      clear hrw1 k6
      clear hp6 hf1 HF
      have HF := Lib.hid hf
      clear hf
      have c2 : U1.cell? ⟨w.heap.size, 2, none⟩ = some (.slice (some ⟨mr.rb, mr.ro, none⟩) n mr.rc) := ((HKB.out U1 HF.out).cell 2).trans HGA.out
      go_upto_region 19 with fail
      clear c2
      have hrf : ∀ V, Frm U1.heap.size [] U1 V → RefAt V s mr := fun V hV => HREF.out.still (HEND.out V (HF.out.call hV HF.out.size (by simp)))
      have hfx : ∀ V, Frm U1.heap.size [] U1 V → V.cell? ⟨w.heap.size, 2, none⟩ = some (.slice (some ⟨mr.rb, mr.ro, none⟩) n mr.rc) ∧ V.cell? ⟨w.heap.size, 3, none⟩ = some (.slice (some ⟨mr.ob, mr.oo, none⟩) n mr.oc) ∧ V.cell? ⟨mr.ob, mr.oo + x, none⟩ = some (.int .i64 ov) := fun V hV => by
        have hb := HKB.out V (HF.out.call hV HF.out.size (by simp))
        exact ⟨(hb.cell 2).trans HGA.out, (hb.cell 3).trans HGB.out, by rw [HOV.out]; exact (hrf V hV).of.cellI HXR.out⟩
      have hla : ∀ V, Frm U1.heap.size [] U1 V → (loadVar 24 ⟨p6, 0, none⟩).run Try.prog V = .ok (.agg (repC r (some ⟨rb, ro, none⟩) rc).toArray) V := fun V hV => load24 (hV.blk K6.out K6.out.lt (by simp)) rfl
      have hlb : ∀ V, Frm U1.heap.size [] U1 V → (loadVar 24 ⟨mr.rb, mr.ro + x * 7, none⟩).run Try.prog V = .ok (.agg (repC r (mr.wa x) (mr.wc x)).toArray) V := fun V hV => by
        rw [HRR.out]
        exact (hrf V hV).reps.load (P := Try.prog) Try.underlying24 rfl HXR.out info24
      have hca : ∀ V, Frm U1.heap.size [] U1 V → Calls Try.prog 50 #[.agg (repC r (some ⟨rb, ro, none⟩) rc).toArray, .agg (repC r (mr.wa x) (mr.wc x)).toArray] V fun e w' => e = .returned (.bool true) ∧ Frm V.heap.size [] V w' := fun V hV =>
        refAlike_any r _ _ rb ro rc (mr.wb x) (mr.wo x) _ V (HRW1.out.frm hV (Nat.le_refl _)) (by rw [HRR.out]; exact (hrf V hV).wh x HXR.out)
      obtain ⟨RA, hRA⟩ : ∃ c, c = repC r (some ⟨rb, ro, none⟩) rc := ⟨_, rfl⟩
      obtain ⟨RB, hRB⟩ : ∃ c, c = repC r (mr.wa x) (mr.wc x) := ⟨_, rfl⟩
      rw [← hRA] at hca
      simp only [← hRA] at hla
      rw [← hRB] at hca
      simp only [← hRB] at hlb
      clear hrf hRA hRB
      have HFX := Lib.hid hfx
      have HLA := Lib.hid hla
      have HLB := Lib.hid hlb
      have HCA := Lib.hid hca
      clear hca hlb hla hfx
      refine wp_region_leftL (fun V => Frm U1.heap.size [] U1 V) 1000 (by kernel_rfl) ?_
      have hS : Frm U1.heap.size [] U1 U1.drew := (Frm.refl _ _ U1).drew
      have HS := Lib.hid hS
      clear hS
      first | (refine LeftL.tkG (v := ?_) 0 rfl HS.out ?_ ?_; rotate_left; · intro V hV; obtain ⟨z1, z2, z3⟩ := HFX.out V hV; clear hV; go_simp; rfl) | refine LeftL.tkN 0 rfl HS.out ?_
      (intro K h; go_simp; refine h _ ?_; clear h K)
      first | (refine LeftL.tkG (v := ?_) 1 rfl HS.out ?_ ?_; rotate_left; · intro V hV; obtain ⟨z1, z2, z3⟩ := HFX.out V hV; clear hV; go_simp; rfl) | refine LeftL.tkN 1 rfl HS.out ?_
      (intro K h; go_simp; refine h _ ?_; clear h K)
      first | (refine LeftL.tkG (v := ?_) 2 rfl HS.out ?_ ?_; rotate_left; · intro V hV; obtain ⟨z1, z2, z3⟩ := HFX.out V hV; clear hV; go_simp; rfl) | refine LeftL.tkN 2 rfl HS.out ?_
      (intro K h; go_simp; refine h _ ?_; clear h K)
      first | (refine LeftL.tkG (v := ?_) 3 rfl HS.out ?_ ?_; rotate_left; · intro V hV; obtain ⟨z1, z2, z3⟩ := HFX.out V hV; clear hV; go_simp; rfl) | refine LeftL.tkN 3 rfl HS.out ?_
      (intro K h; go_simp; refine h _ ?_; clear h K)
      first | (refine LeftL.tkG (v := ?_) 4 rfl HS.out ?_ ?_; rotate_left; · intro V hV; obtain ⟨z1, z2, z3⟩ := HFX.out V hV; clear hV; go_simp; rfl) | refine LeftL.tkN 4 rfl HS.out ?_
      (intro K h; go_simp; refine h _ ?_; clear h K)
      first | (refine LeftL.tkG (v := ?_) 5 rfl HS.out ?_ ?_; rotate_left; · intro V hV; obtain ⟨z1, z2, z3⟩ := HFX.out V hV; clear hV; go_simp; rfl) | refine LeftL.tkN 5 rfl HS.out ?_
      (intro K h; go_simp; refine h _ ?_; clear h K)
      first | (refine LeftL.tkG (v := ?_) 6 rfl HS.out ?_ ?_; rotate_left; · intro V hV; obtain ⟨z1, z2, z3⟩ := HFX.out V hV; clear hV; go_simp; rfl) | refine LeftL.tkN 6 rfl HS.out ?_
      (intro K h; go_simp; refine h _ ?_; clear h K)
      first | (refine LeftL.tkG (v := ?_) 7 rfl HS.out ?_ ?_; rotate_left; · intro V hV; obtain ⟨z1, z2, z3⟩ := HFX.out V hV; clear hV; go_simp; rfl) | refine LeftL.tkN 7 rfl HS.out ?_
      (intro K h; go_simp; refine h _ ?_; clear h K)
      first | (refine LeftL.tkG (v := ?_) 8 rfl HS.out ?_ ?_; rotate_left; · intro V hV; obtain ⟨z1, z2, z3⟩ := HFX.out V hV; clear hV; go_simp; rfl) | refine LeftL.tkN 8 rfl HS.out ?_
      (intro K h; go_simp; refine h _ ?_; clear h K)
      first | (refine LeftL.tkG (v := ?_) 9 rfl HS.out ?_ ?_; rotate_left; · intro V hV; obtain ⟨z1, z2, z3⟩ := HFX.out V hV; clear hV; go_simp; rfl) | refine LeftL.tkN 9 rfl HS.out ?_
      (intro K h; go_simp; refine h _ ?_; clear h K)
      first | (refine LeftL.tkG (v := ?_) 10 rfl HS.out ?_ ?_; rotate_left; · intro V hV; obtain ⟨z1, z2, z3⟩ := HFX.out V hV; clear hV; go_simp; rfl) | refine LeftL.tkN 10 rfl HS.out ?_
      (intro K h; go_simp; refine h _ ?_; clear h K)
      first | (refine LeftL.tkG (v := ?_) 11 rfl HS.out ?_ ?_; rotate_left; · intro V hV; obtain ⟨z1, z2, z3⟩ := HFX.out V hV; clear hV; go_simp; rfl) | refine LeftL.tkN 11 rfl HS.out ?_
      (intro K h; go_simp; refine h _ ?_; clear h K)
      refine LeftL.take 12 rfl (by kernel_rfl) (fun _ _ d _ _ h => by cases d <;> exact h) (yields_loadG (ty := 24) rfl rfl rfl (HLA.out)) HS.out ?_; (intro K' hK'; go_simp; refine hK' _ ?_; clear hK' K')
      first | (refine LeftL.tkG (v := ?_) 13 rfl HS.out ?_ ?_; rotate_left; · intro V hV; obtain ⟨z1, z2, z3⟩ := HFX.out V hV; clear hV; go_simp; rfl) | refine LeftL.tkN 13 rfl HS.out ?_
      (intro K h; go_simp; refine h _ ?_; clear h K)
      first | (refine LeftL.tkG (v := ?_) 14 rfl HS.out ?_ ?_; rotate_left; · intro V hV; obtain ⟨z1, z2, z3⟩ := HFX.out V hV; clear hV; go_simp; rfl) | refine LeftL.tkN 14 rfl HS.out ?_
      (intro K h; go_simp; refine h _ ?_; clear h K)
      first | (refine LeftL.tkG (v := ?_) 15 rfl HS.out ?_ ?_; rotate_left; · intro V hV; obtain ⟨z1, z2, z3⟩ := HFX.out V hV; clear hV; go_simp; rfl) | refine LeftL.tkN 15 rfl HS.out ?_
      (intro K h; go_simp; refine h _ ?_; clear h K)
      first | (refine LeftL.tkG (v := ?_) 16 rfl HS.out ?_ ?_; rotate_left; · intro V hV; obtain ⟨z1, z2, z3⟩ := HFX.out V hV; clear hV; go_simp; rfl) | refine LeftL.tkN 16 rfl HS.out ?_
      (intro K h; go_simp; refine h _ ?_; clear h K)
      refine LeftL.take 17 rfl (by kernel_rfl) (fun _ _ d _ _ h => by cases d <;> exact h) (yields_loadG (ty := 24) rfl rfl rfl (HLB.out)) HS.out ?_; (intro K' hK'; go_simp; refine hK' _ ?_; clear hK' K')
      refine LeftL.one 18 rfl (by kernel_rfl) ?_
      go_wp2_with fail
      refine (HCA.out _ HS.out).mono ?_; rintro e w1 ⟨rfl, hf1⟩
      have hS1 := HS.out.call hf1 HS.out.size (by simp)
      clear hf1 HS
      have HS := Lib.hid hS1
      clear hS1
      go_wp2_with fail
      first | refine ⟨fun _ => HS.out, ?_⟩ | refine ⟨HS.out, ?_⟩
      refine LeftL.one 19 rfl (by kernel_rfl) ?_
      go_wp2_with fail
      first | refine ⟨fun _ => HS.out, ?_⟩ | refine ⟨HS.out, ?_⟩
      refine LeftL.one 20 rfl (by kernel_rfl) ?_
      go_wp2_with fail
      first | refine ⟨fun _ => HS.out, ?_⟩ | refine ⟨HS.out, ?_⟩
      refine LeftL.done (by kernel_rfl) ?_
      have hf := HF.out.call HS.out HF.out.size (by simp)
      clear HF HS HFX HLA HLB HCA HRW1 K6
      have HF := Lib.hid hf
      clear hf
      go_wp2_with fail
      exact ⟨⟨(x : Int) + 1, by simp [y4, y5], by have := HJ0.out; omega, by omega, HF.out⟩, HMS.out⟩
end Go.Proofs.Ythgmdilfmeefiaa
