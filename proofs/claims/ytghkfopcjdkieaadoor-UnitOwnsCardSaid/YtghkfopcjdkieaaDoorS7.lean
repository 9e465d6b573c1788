/-
  The document's Assign.
-/
import Derived.Test.YtghkfopcjdkieaaDoorS6
import Derived.Test.YtghkfopcjdkieaaDoorU9
namespace Go.Proofs.YtghkfopcjdkieaaDoor
set_option linter.all false
set_option linter.unusedSimpArgs false
set_option linter.unusedVariables false
open Go.RowKit

theorem field128 (a b : Int) (o : Option Addr) (n c : Nat) (f : Bool) (w : World) : (Instr.field 128 (.agg #[.int .i64 a, .int .i64 b, .slice o n c, .bool f]) 2).run Tryd.prog w = .ok (.slice o n c) w := by kernel_rfl
attribute [local go_sem] field128
def bestR (N : Nat) (U : Nat → UC) (T : Nat → Int) (G : Nat) (Q : Nat → Int × Int) : SC := (ext N G []).foldl (stepR (arrA U T Q)) sc0
theorem teamE_two {N : Nat} {U : Nat → UC} {Sn : Nat → ByteArray} {M : Nat} {T : Nat → Int} {G : Nat} {Q : Nat → Int × Int} (h6 : ¬ 6 < N) (h7 : ¬ 6 < G) (h : teamB N U Sn M T G Q = false) : teamE N U Sn M T G Q = 2 := by
  unfold teamE
  rw [if_neg (by omega), if_pos h]
theorem teamB_unit {N : Nat} {U : Nat → UC} {Sn : Nat → ByteArray} {M : Nat} {T : Nat → Int} {G : Nat} {Q : Nat → Int × Int} {j : Nat} (hj : j < N) (h : unitB (U j) (Sn j) = false) : teamB N U Sn M T G Q = false := by
  unfold teamB
  rw [show (List.range N).all (fun i => unitB (U i) (Sn i)) = false from by
    rw [← Bool.not_eq_true, List.all_eq_true]
    intro hx
    have := hx j (by simpa using hj)
    rw [h] at this
    cases this]
  rfl
theorem teamB_time {N : Nat} {U : Nat → UC} {Sn : Nat → ByteArray} {M : Nat} {T : Nat → Int} {G : Nat} {Q : Nat → Int × Int} {j : Nat} (hj : j < M) (h : timeB (T j) = false) : teamB N U Sn M T G Q = false := by
  unfold teamB
  rw [show (List.range M).all (fun i => timeB (T i)) = false from by
    rw [← Bool.not_eq_true, List.all_eq_true]
    intro hx
    have := hx j (by simpa using hj)
    rw [h] at this
    cases this]
  simp
theorem teamB_place {N : Nat} {U : Nat → UC} {Sn : Nat → ByteArray} {M : Nat} {T : Nat → Int} {G : Nat} {Q : Nat → Int × Int} {j : Nat} (hj : j < G) (h : placeB (Q j).1 (Q j).2 = false) : teamB N U Sn M T G Q = false := by
  unfold teamB
  rw [show (List.range G).all (fun i => placeB (Q i).1 (Q i).2) = false from by
    rw [← Bool.not_eq_true, List.all_eq_true]
    intro hx
    have := hx j (by simpa using hj)
    rw [h] at this
    cases this]
  simp
def RefAssignIs (N : Nat) (U : Nat → UC) (Sn : Nat → ByteArray) (M : Nat) (T : Nat → Int) (G : Nat) (Q : Nat → Int × Int) (w w' : World) (en : Ending) : Prop :=
  Frm w.heap.size [] w w' ∧ ((teamE N U Sn M T G Q ≠ 0 ∧ en = .returned (.tuple #[.slice none 0 0, .int .i64 (teamE N U Sn M T G Q)])) ∨
    (teamE N U Sn M T G Q = 0 ∧ ∃ v own, en = .returned (.tuple #[v, .int .i64 0]) ∧ Sl w' 3 1 v (bestR N U T G Q).which.length (intsC (bestR N U T G Q).which) own))

set_option maxRecDepth 100000 in
set_option maxHeartbeats 8000000 in
theorem refAssign_any (ua : Option Addr) (ub uo N ucap : Nat) (U : Nat → UC) (Sn : Nat → ByteArray) (hnm : ∀ i, i < N → (U i).name = .string (Sn i)) (sa : Option Addr) (sb so M scap : Nat) (T : Nat → Int) (ga : Option Addr) (gb go_ G gcap : Nat) (Q : Nat → Int × Int)
    (w : World) (tw : TeamW w ua ub uo N U sa sb so M T ga gb go_ G Q) :
    Calls Tryd.prog 43 #[.slice ua N ucap, .slice sa M scap, .slice ga G gcap] w fun en w' => RefAssignIs N U Sn M T G Q w w' en := by
  have hf0 := Tryd.func43
  have HTW := Lib.hid tw
  have HNM := Lib.hid hnm
  clear hnm tw
  go_enter Tryd.func43, Tryd.ntmps43
  by_cases h6 : 6 < N
  · have h6' : (6 : Int) < (N : Int) := by omega
    go_wp2_with fail
    refine bodyPost_ret (v := .tuple #[.slice none 0 0, .int .i64 3]) (by simp [results, Tryd.results43, go_sem]) rfl ?_
    have e : teamE N U Sn M T G Q = 3 := by unfold teamE; rw [if_pos (.inl h6)]
    exact ⟨Frm.refl _ _ _, .inl ⟨by rw [e]; decide, by rw [e]⟩⟩
  have h6' : ¬ (6 : Int) < (N : Int) := by omega
  by_cases h7 : 6 < G
  · have h7' : (6 : Int) < (G : Int) := by omega
    go_wp2_with fail
    refine bodyPost_ret (v := .tuple #[.slice none 0 0, .int .i64 3]) (by simp [results, Tryd.results43, go_sem]) rfl ?_
    have e : teamE N U Sn M T G Q = 3 := by unfold teamE; rw [if_pos (.inr h7)]
    exact ⟨Frm.refl _ _ _, .inl ⟨by rw [e]; decide, by rw [e]⟩⟩
  have h7' : ¬ (6 : Int) < (G : Int) := by omega
  by_cases hMN : M = N
  rotate_left
  · have hMN1 : ((M : Int) == (N : Int)) = false := by simp; omega
    have hMN2 : ¬ (M : Int) = (N : Int) := by omega
    have e : teamE N U Sn M T G Q = 2 := teamE_two h6 h7 (by unfold teamB; simp [hMN])
    have E := Lib.hid e
    have HMN := Lib.hid hMN
    clear hMN e
    go_wp2_with fail
    refine bodyPost_ret (v := .tuple #[.slice none 0 0, .int .i64 2]) (by simp [results, Tryd.results43, go_sem]) rfl ?_
    exact ⟨Frm.refl _ _ _, .inl ⟨by rw [E.out]; decide, by rw [E.out]⟩⟩
  subst hMN
  by_cases hGN : G ≤ M
  rotate_left
  · have hGN1 : (M : Int) < (G : Int) := by omega
    have e : teamE M U Sn M T G Q = 2 := teamE_two h6 h7 (by unfold teamB; simp [hGN])
    have E := Lib.hid e
    clear e
    go_wp2_with fail
    refine bodyPost_ret (v := .tuple #[.slice none 0 0, .int .i64 2]) (by simp [results, Tryd.results43, go_sem]) rfl ?_
    exact ⟨Frm.refl _ _ _, .inl ⟨by rw [E.out]; decide, by rw [E.out]⟩⟩
  have hGN1 : ¬ (M : Int) < (G : Int) := by omega
  have h66 := And.intro h6 (And.intro h7 hGN)
  have H66 := Lib.hid h66
  clear h66
  go_wp2_with fail
  clear h6 h6' h7 h7' hGN hGN1
  go_loopw [8] (fun i8 wr => ∃ j : Nat, i8 = .int .i64 j ∧ j ≤ M ∧ (∀ k, k < j → unitB (U k) (Sn k) = true ∧ timeB (T k) = true) ∧ Frm w.heap.size [] w wr) (fun i8 _ => M - (intOf i8).toNat)
  case atStart => exact ⟨0, rfl, Nat.zero_le _, fun k hk => absurd hk (by omega), by repeat (first | with_reducible exact Frm.refl _ _ _ | with_reducible refine Frm.drewN ?_ | with_reducible refine Frm.drew ?_ | ((with_reducible refine Frm.setCell' ?_ ?_); · first | (left; simp; done) | (right; simp; done) | (right; simp; omega)) | ((with_reducible refine Frm.alloc' ?_ ?_); · first | exact Nat.le_refl _ | (simp; done) | (simp; omega)))⟩
  case round =>
    obtain ⟨j, rfl, hj, hall, hfr⟩ := hrel
    by_cases hjl : j < M
    · have hjl' : (j : Int) < (M : Int) := by omega
      have hua := HTW.out.u.ad (by omega)
      subst hua
      have hsa := HTW.out.s.ad (by omega)
      subst hsa
      have hlo : (loadVar 25 ⟨ub, uo + j * 12, none⟩).run Tryd.prog wr = .ok (.agg (U j).cells.toArray) wr := (HTW.out.frm hfr (Nat.le_refl _)).u.load (P := Tryd.prog) Tryd.underlying25 rfl hjl (UC.info _)
      obtain ⟨t, ht⟩ : ∃ t, t = T j := ⟨_, rfl⟩
      obtain ⟨w4, w5⟩ := wrapUp hjl HTW.out.s.len
      have HLO := Lib.hid hlo
      have HALL := Lib.hid hall
      have HFR := Lib.hid hfr
      have HJL := Lib.hid hjl
      have HT := Lib.hid ht
      clear ht hjl hfr hall hlo
      go_wp2_with (with_reducible refine atLoad 25 rfl ?_; refine wpList_loadE rfl rfl rfl HLO.out ?_)
      refine (refCheckUnit_any (U j) (Sn j) (HNM.out j HJL.out) _).mono ?_; rintro en v1 ⟨rfl, hf1⟩
      have hfr := HFR.out.call hf1 HFR.out.size (by simp)
      clear hf1 HFR HLO
      have c1 : v1.cell? ⟨sb, so + j, none⟩ = some (.int .i64 t) := by rw [HT.out]; exact (HTW.out.frm hfr (Nat.le_refl _)).s.cellI HJL.out
      cases hu : unitB (U j) (Sn j)
      · have e : teamE M U Sn M T G Q = 2 := teamE_two H66.out.1 H66.out.2.1 (teamB_unit HJL.out hu)
        have E := Lib.hid e
        have HFR := Lib.hid hfr
        have HU := Lib.hid hu
        clear hu hfr e
        go_wp2_with fail
        refine bodyPost_ret (v := .tuple #[.slice none 0 0, .int .i64 2]) (by simp [results, Tryd.results43, go_sem]) rfl ?_
        exact ⟨HFR.out, .inl ⟨by rw [E.out]; decide, by rw [E.out]⟩⟩
      have HU := Lib.hid hu
      have HFR := Lib.hid hfr
      clear hfr hu
      go_wp2_with fail
      refine (refTime_any t _).mono ?_; rintro en v2 ⟨rfl, rfl⟩
      clear c1
      cases htt : timeB t
      · have e : teamE M U Sn M T G Q = 2 := teamE_two H66.out.1 H66.out.2.1 (teamB_time HJL.out (by rw [← HT.out]; exact htt))
        have E := Lib.hid e
        have HTT := Lib.hid htt
        clear htt e
        go_wp2_with fail
        refine bodyPost_ret (v := .tuple #[.slice none 0 0, .int .i64 2]) (by simp [results, Tryd.results43, go_sem]) rfl ?_
        exact ⟨HFR.out, .inl ⟨by rw [E.out]; decide, by rw [E.out]⟩⟩
      have HTT := Lib.hid htt
      clear htt
      go_wp2_with fail
      (try simp only [w4, w5])
      exact ⟨⟨j + 1, by simp, HJL.out, fun k hk => by
        rcases Nat.lt_or_ge k j with h | h
        · exact HALL.out k h
        · obtain rfl : k = j := by omega
          exact ⟨HU.out, by rw [← HT.out]; exact HTT.out⟩, HFR.out⟩, meas_up HJL.out⟩
    · have hjl' : ¬ (j : Int) < (M : Int) := by omega
      obtain rfl : j = M := by omega
      have HALL := Lib.hid hall
      have HFR := Lib.hid hfr
      clear hfr hall
      clear hj hjl
      go_wp2_with fail
      clear hjl'
      go_loopw [9] (fun i9 wr => ∃ k : Nat, i9 = .int .i64 k ∧ k ≤ G ∧ (∀ i, i < k → placeB (Q i).1 (Q i).2 = true) ∧ Frm w.heap.size [] w wr) (fun i9 _ => G - (intOf i9).toNat)
      case atStart => exact ⟨0, rfl, Nat.zero_le _, fun k hk => absurd hk (by omega), HFR.out⟩
      case round =>
        clear HFR
        obtain ⟨k, rfl, hk, hpl, hfr⟩ := hrel
        by_cases hkl : k < G
        · have hkl' : (k : Int) < (G : Int) := by omega
          have hga := HTW.out.g.ad (by omega)
          subst hga
          obtain ⟨gx, hgx⟩ : ∃ x, x = (Q k).1 := ⟨_, rfl⟩
          obtain ⟨gy, hgy⟩ : ∃ x, x = (Q k).2 := ⟨_, rfl⟩
          have c1 : wr.cell? ⟨gb, go_ + k * 2, none⟩ = some (.int .i64 gx) := by rw [hgx]; exact (HTW.out.frm hfr (Nat.le_refl _)).g.at_ k hkl 0 _ rfl
          have c2 : wr.cell? ⟨gb, go_ + k * 2 + 1, none⟩ = some (.int .i64 gy) := by rw [hgy]; exact (HTW.out.frm hfr (Nat.le_refl _)).g.at_ k hkl 1 _ rfl
          obtain ⟨w4, w5⟩ := wrapUp hkl HTW.out.g.len
          have HPL := Lib.hid hpl
          have HFR := Lib.hid hfr
          have HKL := Lib.hid hkl
          have HGX := Lib.hid hgx
          have HGY := Lib.hid hgy
          clear hgy hgx hkl hfr hpl
          go_wp2_with fail
          refine (refPlace_any gx gy _).mono ?_; rintro en v1 ⟨rfl, hf1⟩
          have hfr := HFR.out.call hf1 HFR.out.size (by simp)
          clear hf1 HFR c1 c2
          cases hp : placeB gx gy
          · have e : teamE j U Sn j T G Q = 2 := teamE_two H66.out.1 H66.out.2.1 (teamB_place HKL.out (by rw [← HGX.out, ← HGY.out]; exact hp))
            have E := Lib.hid e
            have HFR := Lib.hid hfr
            have HP := Lib.hid hp
            clear hp hfr e
            go_wp2_with fail
            refine bodyPost_ret (v := .tuple #[.slice none 0 0, .int .i64 2]) (by simp [results, Tryd.results43, go_sem]) rfl ?_
            exact ⟨HFR.out, .inl ⟨by rw [E.out]; decide, by rw [E.out]⟩⟩
          have HP := Lib.hid hp
          have HFR := Lib.hid hfr
          clear hfr hp
          go_wp2_with fail
          (try simp only [w4, w5])
          exact ⟨⟨k + 1, by simp, HKL.out, fun i hi => by
            rcases Nat.lt_or_ge i k with h | h
            · exact HPL.out i h
            · obtain rfl : i = k := by omega
              rw [← HGX.out, ← HGY.out]; exact HP.out, HFR.out⟩, meas_up HKL.out⟩
        · have hkl' : ¬ (k : Int) < (G : Int) := by omega
          obtain rfl : k = G := by omega
          have hyes : teamB j U Sn j T k Q = true := by
            unfold teamB
            simp only [Bool.and_eq_true, List.all_eq_true, List.mem_range, decide_eq_true_eq]
            exact ⟨⟨⟨⟨fun i hi => (HALL.out i hi).1, hpl⟩, fun i hi => (HALL.out i hi).2⟩, by simp⟩, H66.out.2.2⟩
          have hE0 : teamE j U Sn j T k Q = 0 := by unfold teamE; rw [if_neg (by have := H66.out; omega), if_neg (by rw [hyes]; simp)]
          have ok := (teamE_ok hE0).1
          have key := choose_any ua ub uo j ucap U sa sb so scap T ga gb go_ k gcap Q ok k [] wr sc0 (.slice none 0 0) (.slice none 0 0) none none (by simp) (fun i hi => absurd hi (by simp)) (HTW.out.frm hfr (Nat.le_refl _)) (Sl.nil wr 3 1) (Sl.nil wr 3 1) (fun h => by cases h)
          clear hyes hpl
          have KEY := Lib.hid key
          have HE0 := Lib.hid hE0
          have HFR := Lib.hid hfr
          clear hfr hE0 key
          clear ok
          go_wp2_with fail
          refine KEY.out.mono ?_; rintro en v1 ⟨ov, own, rfl, hsl, hfo, hf1⟩
          obtain ⟨oa, ocap, rfl⟩ := hsl.form
          have hfr := HFR.out.call hf1 HFR.out.size (by simp)
          obtain ⟨b, hb⟩ : ∃ b, b = bestR j U T k Q := ⟨_, rfl⟩
          have hb2 : List.foldl (stepR (arrA U T Q)) sc0 (ext j k []) = b := hb.symm
          rw [hb2] at hsl
          clear hf1 HFR KEY hfo hb2
          have HSL := Lib.hid hsl
          have HFR := Lib.hid hfr
          have HB := Lib.hid hb
          clear hb hfr hsl
          rw [show List.foldl (stepR (arrA U T Q)) sc0 (ext j k []) = b from HB.out.symm]
          simp only [chC]
          go_wp2_with fail
          refine bodyPost_ret (v := .tuple #[.slice oa b.which.length ocap, .int .i64 0]) (by simp [results, Tryd.results43, go_sem]) rfl ?_
          exact ⟨HFR.out, .inr ⟨HE0.out, _, own, rfl, by rw [← HB.out]; exact HSL.out⟩⟩
end Go.Proofs.YtghkfopcjdkieaaDoor
