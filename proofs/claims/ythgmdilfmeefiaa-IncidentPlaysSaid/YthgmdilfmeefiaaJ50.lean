/-
  The document: does a count fit; is a report settled.
-/
import Derived.Test.YthgmdilfmeefiaaJ49
namespace Go.Proofs.Ythgmdilfmeefiaa
set_option linter.all false
set_option linter.unusedSimpArgs false
set_option linter.unusedVariables false
open Go.RowKit
attribute [local go_sem ↓ high] run_min_ run_max_ run_min2 run_max2

set_option maxRecDepth 100000 in
set_option maxHeartbeats 8000000 in
theorem refFound_any (p : Prf) (pad : Option Addr) (pcap : Nat) (r : Rep) (ad : Option Addr) (cap : Nat) (w : World) :
    Calls Try.prog 97 #[.agg (prfA p pad pcap).toArray, .agg (repC r ad cap).toArray] w fun e w' => e = .returned (.bool (foundB p.count r)) ∧ Frm w.heap.size [] w w' := by
  have hf0 := Try.func97
  obtain ⟨P, hP⟩ : ∃ E, E = prfA p pad pcap := ⟨_, rfl⟩
  obtain ⟨C, hC⟩ : ∃ E, E = repC r ad cap := ⟨_, rfl⟩
  have hp5 : P[5]? = some (.int .i64 p.count) := by rw [hP]; rfl
  have hc5 : C[5]? = some (.int .i64 r.souls) := by rw [hC]; rfl
  have hfo : foundB p.count r = (decide (r.souls = 0) || decide (max 1 r.souls ≤ p.count)) := rfl
  obtain ⟨souls, hso⟩ : ∃ c, c = r.souls := ⟨_, rfl⟩
  obtain ⟨count, hco⟩ : ∃ c, c = p.count := ⟨_, rfl⟩
  obtain ⟨res, hres⟩ : ∃ c, c = foundB p.count r := ⟨_, rfl⟩
  rw [← hres] at hfo ⊢
  rw [← hso] at hc5 hfo
  rw [← hco] at hp5 hfo
  rw [← hP, ← hC]
  clear hP hC hso hco hres
  have HP5 := Lib.hid hp5
  have HC5 := Lib.hid hc5
  have HFO := Lib.hid hfo
  clear hfo hc5 hp5
  go_enter Try.func97, Try.ntmps97
  go_upto_region 1 with fail
  refine namedC ?_; intro W hW
  have k0 : Blk W w.heap.size 39 P := by rw [hW]; refine Blk.alloc' ?_; exact Blk.new w 39 P
  have k1 : Blk W (w.heap.size + 1) 24 C := by rw [hW]; exact Blk.new' _ 24 C (by simp)
  have hf : Frm w.heap.size [] w W := by rw [hW]; repeat (first | with_reducible exact Frm.refl _ _ _ | with_reducible refine Frm.drewN ?_ | with_reducible refine Frm.drew ?_ | ((with_reducible refine Frm.setCell' ?_ ?_); · first | (left; simp; done) | (right; simp; done) | (right; simp; omega)) | ((with_reducible refine Frm.alloc' ?_ ?_); · first | exact Nat.le_refl _ | (simp; done) | (simp; omega)))
  clear hW hf0
  have c0 : W.cell? ⟨w.heap.size, 5, none⟩ = some (.int .i64 count) := (k0.cell 5).trans HP5.out
  have c1 : W.cell? ⟨w.heap.size + 1, 5, none⟩ = some (.int .i64 souls) := (k1.cell 5).trans HC5.out
  clear k0 k1
  have HF := Lib.hid hf
  clear hf
  obtain ⟨mx, hmx⟩ : ∃ c, c = max 1 souls := ⟨_, rfl⟩
  by_cases h1 : max 1 souls ≤ count
  · go_wp2_with fail
    go_ret
    exact ⟨by rw [HFO.out]; simp [h1], HF.out⟩
  by_cases h2 : souls = 0
  · subst h2
    go_wp2_with fail
    go_ret
    exact ⟨by rw [HFO.out]; simp, HF.out⟩
  have h2b : (souls == 0) = false := by simp [h2]
  go_wp2_with fail
  go_ret
  exact ⟨by rw [HFO.out]; simp [h1, h2], HF.out⟩
set_option maxRecDepth 100000 in
set_option maxHeartbeats 16000000 in
theorem refSettled_any {w : World} {s : BS} {m : RMem} (h : RefAt w s m) (n : Nat) (hn : n < s.reps.length) :
    Calls Try.prog 73 #[.agg (refC s m).toArray, .int .i64 (n : Int)] w fun e w' => e = .returned (.bool (settledB s n)) ∧ Frm w.heap.size [] w w' := by
  have hf0 := Try.func73
  have hset : settledB s n = (List.range s.prf.length).any fun q => settleB s n (s.pf q) := (any_prf s (settleB s n)).symm
  obtain ⟨N, hN⟩ : ∃ c, c = s.reps.length := ⟨_, rfl⟩
  obtain ⟨M, hM⟩ : ∃ c, c = s.prf.length := ⟨_, rfl⟩
  have hM5 : M ≤ 500 := by rw [hM]; exact h.inv.max.2
  have hra := h.reps.ad (by omega)
  have hoa := h.of.ad (by omega)
  have hqa : 0 < M → m.qa = some ⟨m.qb, m.qo, none⟩ := fun h0 => h.prf.ad (by omega)
  obtain ⟨C, hC⟩ : ∃ C, C = refC s m := ⟨_, rfl⟩
  have hc2 : C[2]? = some (.slice (some ⟨m.rb, m.ro, none⟩) N m.rc) := by rw [hC, hN, ← hra]; rfl
  have hc3 : C[3]? = some (.slice (some ⟨m.ob, m.oo, none⟩) N m.oc) := by rw [hC, hN, ← hoa]; rfl
  have hc5 : C[5]? = some (.slice m.qa M m.qc) := by rw [hC, hM]; rfl
  have hof : ∀ V, Frm w.heap.size [] w V → ∀ j, j < N → V.cell? ⟨m.ob, m.oo + j, none⟩ = some (.int .i64 (s.o j : Int)) := fun V hV j hj => (h.of.frm hV (Nat.le_refl _)).cellI (by omega)
  have htm : ∀ V, Frm w.heap.size [] w V → V.cell? ⟨m.rb, m.ro + n * 7 + 1, none⟩ = some (.int .i64 (s.rp n).time) := fun V hV => (h.reps.frm hV (Nat.le_refl _)).at_ n hn 1 _ rfl
  have hl24 : ∀ V, Frm w.heap.size [] w V → (loadVar 24 ⟨m.rb, m.ro + n * 7, none⟩).run Try.prog V = .ok (.agg (repC (s.rp n) (m.wa n) (m.wc n)).toArray) V := fun V hV => (h.reps.frm hV (Nat.le_refl _)).load (P := Try.prog) Try.underlying24 rfl hn info24
  have hpq : ∀ q, q < M → ∃ x : Nat, (s.pf q).rep = (x : Int) ∧ x < N := fun q hq => by
    have := (h.inv.prfAt (q := q) (by omega)).1
    exact ⟨(s.pf q).rep.toNat, by omega, by omega⟩
  have hl39 : ∀ V, Frm w.heap.size [] w V → ∀ q, q < M → (loadVar 39 ⟨m.qb, m.qo + q * 6, none⟩).run Try.prog V = .ok (.agg (prfA (s.pf q) (m.xa q) (m.xc q)).toArray) V := fun V hV q hq => (h.prf.frm hV (Nat.le_refl _)).load (P := Try.prog) Try.underlying39 rfl (by omega) info39
  have hsb : ∀ (q x : Nat), (s.pf q).rep = (x : Int) → settleB s n (s.pf q) = (decide ((x : Int) = (n : Int)) || (decide ((s.pf q).kind = 1) && decide ((s.o x : Int) = (s.o n : Int)) && decide ((s.rp n).time ≤ (s.pf q).time) && foundB (s.pf q).count (s.rp n))) := fun q x hx => by
    unfold settleB
    rw [hx, Int.toNat_natCast]
    have e : decide ((s.o x : Int) = (s.o n : Int)) = decide (s.o x = s.o n) := by
      rw [Bool.eq_iff_iff, decide_eq_true_eq, decide_eq_true_eq]; omega
    rw [e]
  obtain ⟨rn, hrn⟩ : ∃ c, c = repC (s.rp n) (m.wa n) (m.wc n) := ⟨_, rfl⟩
  have hfc : ∀ V q, Calls Try.prog 97 #[.agg (prfA (s.pf q) (m.xa q) (m.xc q)).toArray, .agg rn.toArray] V fun e w' => e = .returned (.bool (foundB (s.pf q).count (s.rp n))) ∧ Frm V.heap.size [] V w' := fun V q => by rw [hrn]; exact refFound_any _ _ _ _ _ _ V
  obtain ⟨tn, htn⟩ : ∃ c, c = (s.rp n).time := ⟨_, rfl⟩
  obtain ⟨res, hres⟩ : ∃ c, c = settledB s n := ⟨_, rfl⟩
  obtain ⟨qa, hqae⟩ : ∃ c, c = m.qa := ⟨_, rfl⟩
  obtain ⟨qc, hqce⟩ : ∃ c, c = m.qc := ⟨_, rfl⟩
  rw [← hrn] at hl24
  simp only [← htn] at htm hsb
  rw [← hres] at hset ⊢
  rw [← hqae] at hc5 hqa
  rw [← hqce] at hc5
  rw [← hM] at hset
  rw [← hN] at hn
  rw [← hC]
  clear hrn htn hres hqae hqce hN hM hC hra hoa h
  have HSET := Lib.hid hset
  have HM5 := Lib.hid hM5
  have HQA := Lib.hid hqa
  have HC2 := Lib.hid hc2
  have HC3 := Lib.hid hc3
  have HC5 := Lib.hid hc5
  have HOF := Lib.hid hof
  have HTM := Lib.hid htm
  have HL24 := Lib.hid hl24
  have HPQ := Lib.hid hpq
  have HL39 := Lib.hid hl39
  have HSB := Lib.hid hsb
  have HFC := Lib.hid hfc
  have HN := Lib.hid hn
  clear hn hfc hsb hl39 hpq hl24 htm hof hc5 hc3 hc2 hqa hM5 hset
  go_enter Try.func73, Try.ntmps73
  go_upto_region 1 with fail
  refine namedC ?_; intro W hW
  have k0 : Blk W w.heap.size 55 C := by rw [hW]; exact Blk.new w 55 C
  have hf : Frm w.heap.size [] w W := by rw [hW]; repeat (first | with_reducible exact Frm.refl _ _ _ | with_reducible refine Frm.drewN ?_ | with_reducible refine Frm.drew ?_ | ((with_reducible refine Frm.setCell' ?_ ?_); · first | (left; simp; done) | (right; simp; done) | (right; simp; omega)) | ((with_reducible refine Frm.alloc' ?_ ?_); · first | exact Nat.le_refl _ | (simp; done) | (simp; omega)))
  clear hW hf0
  have hcc : ∀ V, Frm W.heap.size [] W V → V.cell? ⟨w.heap.size, 2, none⟩ = some (.slice (some ⟨m.rb, m.ro, none⟩) N m.rc) ∧ V.cell? ⟨w.heap.size, 3, none⟩ = some (.slice (some ⟨m.ob, m.oo, none⟩) N m.oc) ∧ V.cell? ⟨w.heap.size, 5, none⟩ = some (.slice qa M qc) := fun V hV => by
    have kk := hV.blk k0 k0.lt (by simp)
    exact ⟨(kk.cell 2).trans HC2.out, (kk.cell 3).trans HC3.out, (kk.cell 5).trans HC5.out⟩
  have hend : ∀ V, Frm W.heap.size [] W V → Frm w.heap.size [] w V := fun V hV => hf.call hV hf.size (by simp)
  clear k0 hf HC2 HC3 HC5
  have HCC := Lib.hid hcc
  have HEND := Lib.hid hend
  clear hend hcc
  go_wp2_with fail
  go_loopw [5] (fun s5 wr => ∃ j : Nat, s5 = .int .i64 j ∧ j ≤ M ∧ (∀ q, q < j → settleB s n (s.pf q) = false) ∧ Frm W.heap.size [] W wr) (fun s5 _ => M - (intOf s5).toNat)
  case atStart => exact ⟨0, rfl, Nat.zero_le _, fun q hq => absurd hq (by omega), Frm.refl _ _ _⟩
  case round =>
    obtain ⟨j, rfl, hj, hno, hf⟩ := hrel
    obtain ⟨_, _, c5⟩ := HCC.out wr hf
    by_cases hjl : j < M
    rotate_left
    · have hjl' : ¬ (j : Int) < (M : Int) := by omega
      obtain rfl : j = M := by omega
      have hr : res = false := by rw [HSET.out, List.any_eq_false]; intro q hq; rw [hno q (by simpa using hq)]; simp
      have HF := Lib.hid hf
      have HR := Lib.hid hr
      clear hr hf
      go_wp2_with fail
      go_ret
      exact ⟨by rw [HR.out]; rfl, HEND.out _ HF.out⟩
    have hjl' : (j : Int) < (M : Int) := by omega
    have hqa := HQA.out (by omega)
    subst hqa
    obtain ⟨y4, y5⟩ := wrapUp hjl (by have := HM5.out; unfold maxLen; omega)
    have hms := meas_up hjl
    obtain ⟨x, hx, hxN⟩ := HPQ.out j hjl
    have hsb := HSB.out j x hx
    have hyes : settleB s n (s.pf j) = true → res = true := fun e => by
      rw [HSET.out, List.any_eq_true]
      exact ⟨j, by simpa using hjl, e⟩
    have hnx : settleB s n (s.pf j) = false → ∀ q, q < j + 1 → settleB s n (s.pf q) = false := fun e q hq => by
      rcases Nat.lt_or_ge q j with g | g
      · exact hno q g
      · obtain rfl : q = j := by omega
        exact e
    have hl39 := HL39.out wr (HEND.out _ hf) j hjl
    have hfc := fun V => HFC.out V j
    obtain ⟨P, hP⟩ : ∃ c, c = prfA (s.pf j) (m.xa j) (m.xc j) := ⟨_, rfl⟩
    have hp0 : P[0]? = some (.int .i64 (s.pf j).kind) := by rw [hP]; rfl
    have hp1 : P[1]? = some (.int .i64 (x : Int)) := by rw [hP, ← hx]; rfl
    have hp2 : P[2]? = some (.int .i64 (s.pf j).time) := by rw [hP]; rfl
    have hz6 : P.length = 6 := by rw [hP]; rfl
    have hone : ∀ u ∈ P, u.oneCell' = true := by rw [hP]; simp [prfA, Value.oneCell']
    rw [← hP] at hl39
    simp only [← hP] at hfc
    obtain ⟨kind, hkind⟩ : ∃ c, c = (s.pf j).kind := ⟨_, rfl⟩
    obtain ⟨tp, htp⟩ : ∃ c, c = (s.pf j).time := ⟨_, rfl⟩
    obtain ⟨fo, hfo⟩ : ∃ c, c = foundB (s.pf j).count (s.rp n) := ⟨_, rfl⟩
    obtain ⟨sj, hsj⟩ : ∃ c, c = settleB s n (s.pf j) := ⟨_, rfl⟩
    rw [← hkind] at hp0 hsb
    rw [← htp] at hp2 hsb
    rw [← hfo] at hsb
    simp only [← hfo] at hfc
    rw [← hsj] at hsb hyes hnx
    clear hP hkind htp hfo hsj hx hno
    have HF := Lib.hid hf
    have HMS := Lib.hid hms
    have HJL := Lib.hid hjl
    have HSJ := Lib.hid hsb
    have HYES := Lib.hid hyes
    have HNX := Lib.hid hnx
    have HLP := Lib.hid hl39
    have HFP := Lib.hid hfc
    have HP0 := Lib.hid hp0
    have HP1 := Lib.hid hp1
    have HP2 := Lib.hid hp2
    have HZ6 := Lib.hid hz6
    have HONE := Lib.hid hone
    have HXN := Lib.hid hxN
    clear hxN hone hz6 hp2 hp1 hp0 hfc hl39 hnx hyes hsb hjl hms hf
    go_wp2_with (first | (with_reducible refine atLoad 39 rfl ?_; refine wpList_loadE rfl rfl rfl HLP.out ?_) | (with_reducible refine atStore 39 rfl ?_; refine stop_ ?_))
    refine go_on ?_
    refine wpList_storeNew (P := Try.prog) (cs := P) rfl rfl rfl rfl (by rw [HZ6.out]; rfl) (by rw [HZ6.out]; exact info39) HONE.out ?_
    intro V1 hv1 k6 hz; clear hz
    obtain ⟨p6, hp6⟩ : ∃ p, p = wr.heap.size := ⟨_, rfl⟩
    have hf := HF.out.call hv1 HF.out.size (by simp)
    rw [← hp6] at k6 ⊢
    dsimp only [Act.put]
    have d1 : V1.cell? ⟨p6, 1, none⟩ = some (.int .i64 (x : Int)) := (k6.cell 1).trans HP1.out
    clear hp6 hv1 HF HLP c5
    have HF := Lib.hid hf
    have K6 := Lib.hid k6
    clear k6 hf
    by_cases hxn : x = n
    · have hsj1 : sj = true := by rw [HSJ.out, hxn]; simp
      have HSJ_ := Lib.hid hsj1
      clear hsj1
      subst hxn
      have hr := HYES.out (HSJ_.out)
      have HR := Lib.hid hr
      clear hr
      go_wp2_with fail
      go_ret
      exact ⟨by rw [HR.out]; rfl, HEND.out _ HF.out⟩
    have hne : ¬ (x : Int) = (n : Int) := by omega
    have hne2 : ((x : Int) == (n : Int)) = false := by simp [hne]
    have hxN' : (x : Int) < (N : Int) := by have := HXN.out; omega
    have hnN' : (n : Int) < (N : Int) := by have := HN.out; omega
    obtain ⟨ox, hox⟩ : ∃ c, c = (s.o x : Int) := ⟨_, rfl⟩
    obtain ⟨on, hon⟩ : ∃ c, c = (s.o n : Int) := ⟨_, rfl⟩
    have hsj := HSJ.out
    rw [← hox, ← hon] at hsj
    have hfx : ∀ V, Frm V1.heap.size [] V1 V → V.cell? ⟨p6, 0, none⟩ = some (.int .i64 kind) ∧ V.cell? ⟨p6, 1, none⟩ = some (.int .i64 (x : Int)) ∧ V.cell? ⟨p6, 2, none⟩ = some (.int .i64 tp) ∧ V.cell? ⟨w.heap.size, 2, none⟩ = some (.slice (some ⟨m.rb, m.ro, none⟩) N m.rc) ∧ V.cell? ⟨w.heap.size, 3, none⟩ = some (.slice (some ⟨m.ob, m.oo, none⟩) N m.oc) ∧ V.cell? ⟨m.ob, m.oo + x, none⟩ = some (.int .i64 ox) ∧ V.cell? ⟨m.ob, m.oo + n, none⟩ = some (.int .i64 on) ∧ V.cell? ⟨m.rb, m.ro + n * 7 + 1, none⟩ = some (.int .i64 tn) ∧ True := fun V hV => by
      have kk := hV.blk K6.out K6.out.lt (by simp)
      have hV2 := HF.out.call hV HF.out.size (by simp)
      obtain ⟨g2, g3, _⟩ := HCC.out V hV2
      exact ⟨(kk.cell 0).trans HP0.out, (kk.cell 1).trans HP1.out, (kk.cell 2).trans HP2.out, g2, g3, by rw [hox]; exact HOF.out V (HEND.out V hV2) x HXN.out, by rw [hon]; exact HOF.out V (HEND.out V hV2) n HN.out, HTM.out V (HEND.out V hV2), trivial⟩
    have hla : ∀ V, Frm V1.heap.size [] V1 V → (loadVar 39 ⟨p6, 0, none⟩).run Try.prog V = .ok (.agg P.toArray) V := fun V hV => load39 (hV.blk K6.out K6.out.lt (by simp)) HZ6.out
    have hlb : ∀ V, Frm V1.heap.size [] V1 V → (loadVar 24 ⟨m.rb, m.ro + n * 7, none⟩).run Try.prog V = .ok (.agg rn.toArray) V := fun V hV => HL24.out V (HEND.out V (HF.out.call hV HF.out.size (by simp)))
    clear hox hon
    have HFX := Lib.hid hfx
    have HLA := Lib.hid hla
    have HLB := Lib.hid hlb
    have HSJ2 := Lib.hid hsj
    clear hsj hlb hla hfx
    by_cases hk1 : kind = 1
    rotate_left
    · have hk1b : (kind == 1) = false := by simp [hk1]
      have hnx := HNX.out (by rw [HSJ2.out]; simp [hne, hk1])
      have HNX2 := Lib.hid hnx
      clear hnx
      go_upto_region 7 with fail
      clear d1
      refine wp_region_leftL (fun V => Frm V1.heap.size [] V1 V) 1000 (by kernel_rfl) ?_
      have hS : Frm V1.heap.size [] V1 V1.drew := (Frm.refl _ _ V1).drew
      have HS := Lib.hid hS
      clear hS
      first | (refine LeftL.tkG (v := ?_) 0 rfl HS.out ?_ ?_; rotate_left; · intro V hV; obtain ⟨z1, z2, z3, z4, z5, z6, z7, z8, z9⟩ := HFX.out V hV; clear hV; go_simp; rfl) | refine LeftL.tkN 0 rfl HS.out ?_
      (intro K h; go_simp; refine h _ ?_; clear h K)
      first | (refine LeftL.tkG (v := ?_) 1 rfl HS.out ?_ ?_; rotate_left; · intro V hV; obtain ⟨z1, z2, z3, z4, z5, z6, z7, z8, z9⟩ := HFX.out V hV; clear hV; go_simp; rfl) | refine LeftL.tkN 1 rfl HS.out ?_
      (intro K h; go_simp; refine h _ ?_; clear h K)
      first | (refine LeftL.tkG (v := ?_) 2 rfl HS.out ?_ ?_; rotate_left; · intro V hV; obtain ⟨z1, z2, z3, z4, z5, z6, z7, z8, z9⟩ := HFX.out V hV; clear hV; go_simp; rfl) | refine LeftL.tkN 2 rfl HS.out ?_
      (intro K h; go_simp; refine h _ ?_; clear h K)
      first | (refine LeftL.tkG (v := ?_) 3 rfl HS.out ?_ ?_; rotate_left; · intro V hV; obtain ⟨z1, z2, z3, z4, z5, z6, z7, z8, z9⟩ := HFX.out V hV; clear hV; go_simp; rfl) | refine LeftL.tkN 3 rfl HS.out ?_
      (intro K h; go_simp; refine h _ ?_; clear h K)
      first | (refine LeftL.tkG (v := ?_) 4 rfl HS.out ?_ ?_; rotate_left; · intro V hV; obtain ⟨z1, z2, z3, z4, z5, z6, z7, z8, z9⟩ := HFX.out V hV; clear hV; go_simp; rfl) | refine LeftL.tkN 4 rfl HS.out ?_
      (intro K h; go_simp; refine h _ ?_; clear h K)
      first | (refine LeftL.tkG (v := ?_) 5 rfl HS.out ?_ ?_; rotate_left; · intro V hV; obtain ⟨z1, z2, z3, z4, z5, z6, z7, z8, z9⟩ := HFX.out V hV; clear hV; go_simp; rfl) | refine LeftL.tkN 5 rfl HS.out ?_
      (intro K h; go_simp; refine h _ ?_; clear h K)
      first | (refine LeftL.tkG (v := ?_) 6 rfl HS.out ?_ ?_; rotate_left; · intro V hV; obtain ⟨z1, z2, z3, z4, z5, z6, z7, z8, z9⟩ := HFX.out V hV; clear hV; go_simp; rfl) | refine LeftL.tkN 6 rfl HS.out ?_
      (intro K h; go_simp; refine h _ ?_; clear h K)
      first | (refine LeftL.tkG (v := ?_) 7 rfl HS.out ?_ ?_; rotate_left; · intro V hV; obtain ⟨z1, z2, z3, z4, z5, z6, z7, z8, z9⟩ := HFX.out V hV; clear hV; go_simp; rfl) | refine LeftL.tkN 7 rfl HS.out ?_
      (intro K h; go_simp; refine h _ ?_; clear h K)
      first | (refine LeftL.tkG (v := ?_) 8 rfl HS.out ?_ ?_; rotate_left; · intro V hV; obtain ⟨z1, z2, z3, z4, z5, z6, z7, z8, z9⟩ := HFX.out V hV; clear hV; go_simp; rfl) | refine LeftL.tkN 8 rfl HS.out ?_
      (intro K h; go_simp; refine h _ ?_; clear h K)
      first | (refine LeftL.tkG (v := ?_) 9 rfl HS.out ?_ ?_; rotate_left; · intro V hV; obtain ⟨z1, z2, z3, z4, z5, z6, z7, z8, z9⟩ := HFX.out V hV; clear hV; go_simp; rfl) | refine LeftL.tkN 9 rfl HS.out ?_
      (intro K h; go_simp; refine h _ ?_; clear h K)
      first | (refine LeftL.tkG (v := ?_) 10 rfl HS.out ?_ ?_; rotate_left; · intro V hV; obtain ⟨z1, z2, z3, z4, z5, z6, z7, z8, z9⟩ := HFX.out V hV; clear hV; go_simp; rfl) | refine LeftL.tkN 10 rfl HS.out ?_
      (intro K h; go_simp; refine h _ ?_; clear h K)
      first | (refine LeftL.tkG (v := ?_) 11 rfl HS.out ?_ ?_; rotate_left; · intro V hV; obtain ⟨z1, z2, z3, z4, z5, z6, z7, z8, z9⟩ := HFX.out V hV; clear hV; go_simp; rfl) | refine LeftL.tkN 11 rfl HS.out ?_
      (intro K h; go_simp; refine h _ ?_; clear h K)
      first | (refine LeftL.tkG (v := ?_) 12 rfl HS.out ?_ ?_; rotate_left; · intro V hV; obtain ⟨z1, z2, z3, z4, z5, z6, z7, z8, z9⟩ := HFX.out V hV; clear hV; go_simp; rfl) | refine LeftL.tkN 12 rfl HS.out ?_
      (intro K h; go_simp; refine h _ ?_; clear h K)
      first | (refine LeftL.tkG (v := ?_) 13 rfl HS.out ?_ ?_; rotate_left; · intro V hV; obtain ⟨z1, z2, z3, z4, z5, z6, z7, z8, z9⟩ := HFX.out V hV; clear hV; go_simp; rfl) | refine LeftL.tkN 13 rfl HS.out ?_
      (intro K h; go_simp; refine h _ ?_; clear h K)
      first | (refine LeftL.tkG (v := ?_) 14 rfl HS.out ?_ ?_; rotate_left; · intro V hV; obtain ⟨z1, z2, z3, z4, z5, z6, z7, z8, z9⟩ := HFX.out V hV; clear hV; go_simp; rfl) | refine LeftL.tkN 14 rfl HS.out ?_
      (intro K h; go_simp; refine h _ ?_; clear h K)
      first | (refine LeftL.tkG (v := ?_) 15 rfl HS.out ?_ ?_; rotate_left; · intro V hV; obtain ⟨z1, z2, z3, z4, z5, z6, z7, z8, z9⟩ := HFX.out V hV; clear hV; go_simp; rfl) | refine LeftL.tkN 15 rfl HS.out ?_
      (intro K h; go_simp; refine h _ ?_; clear h K)
      first | (refine LeftL.tkG (v := ?_) 16 rfl HS.out ?_ ?_; rotate_left; · intro V hV; obtain ⟨z1, z2, z3, z4, z5, z6, z7, z8, z9⟩ := HFX.out V hV; clear hV; go_simp; rfl) | refine LeftL.tkN 16 rfl HS.out ?_
      (intro K h; go_simp; refine h _ ?_; clear h K)
      first | (refine LeftL.tkG (v := ?_) 17 rfl HS.out ?_ ?_; rotate_left; · intro V hV; obtain ⟨z1, z2, z3, z4, z5, z6, z7, z8, z9⟩ := HFX.out V hV; clear hV; go_simp; rfl) | refine LeftL.tkN 17 rfl HS.out ?_
      (intro K h; go_simp; refine h _ ?_; clear h K)
      first | (refine LeftL.tkG (v := ?_) 18 rfl HS.out ?_ ?_; rotate_left; · intro V hV; obtain ⟨z1, z2, z3, z4, z5, z6, z7, z8, z9⟩ := HFX.out V hV; clear hV; go_simp; rfl) | refine LeftL.tkN 18 rfl HS.out ?_
      (intro K h; go_simp; refine h _ ?_; clear h K)
      first | (refine LeftL.tkG (v := ?_) 19 rfl HS.out ?_ ?_; rotate_left; · intro V hV; obtain ⟨z1, z2, z3, z4, z5, z6, z7, z8, z9⟩ := HFX.out V hV; clear hV; go_simp; rfl) | refine LeftL.tkN 19 rfl HS.out ?_
      (intro K h; go_simp; refine h _ ?_; clear h K)
      first | (refine LeftL.tkG (v := ?_) 20 rfl HS.out ?_ ?_; rotate_left; · intro V hV; obtain ⟨z1, z2, z3, z4, z5, z6, z7, z8, z9⟩ := HFX.out V hV; clear hV; go_simp; rfl) | refine LeftL.tkN 20 rfl HS.out ?_
      (intro K h; go_simp; refine h _ ?_; clear h K)
      first | (refine LeftL.tkG (v := ?_) 21 rfl HS.out ?_ ?_; rotate_left; · intro V hV; obtain ⟨z1, z2, z3, z4, z5, z6, z7, z8, z9⟩ := HFX.out V hV; clear hV; go_simp; rfl) | refine LeftL.tkN 21 rfl HS.out ?_
      (intro K h; go_simp; refine h _ ?_; clear h K)
      first | (refine LeftL.tkG (v := ?_) 22 rfl HS.out ?_ ?_; rotate_left; · intro V hV; obtain ⟨z1, z2, z3, z4, z5, z6, z7, z8, z9⟩ := HFX.out V hV; clear hV; go_simp; rfl) | refine LeftL.tkN 22 rfl HS.out ?_
      (intro K h; go_simp; refine h _ ?_; clear h K)
      first | (refine LeftL.tkG (v := ?_) 23 rfl HS.out ?_ ?_; rotate_left; · intro V hV; obtain ⟨z1, z2, z3, z4, z5, z6, z7, z8, z9⟩ := HFX.out V hV; clear hV; go_simp; rfl) | refine LeftL.tkN 23 rfl HS.out ?_
      (intro K h; go_simp; refine h _ ?_; clear h K)
      first | (refine LeftL.tkG (v := ?_) 24 rfl HS.out ?_ ?_; rotate_left; · intro V hV; obtain ⟨z1, z2, z3, z4, z5, z6, z7, z8, z9⟩ := HFX.out V hV; clear hV; go_simp; rfl) | refine LeftL.tkN 24 rfl HS.out ?_
      (intro K h; go_simp; refine h _ ?_; clear h K)
      first | (refine LeftL.tkG (v := ?_) 25 rfl HS.out ?_ ?_; rotate_left; · intro V hV; obtain ⟨z1, z2, z3, z4, z5, z6, z7, z8, z9⟩ := HFX.out V hV; clear hV; go_simp; rfl) | refine LeftL.tkN 25 rfl HS.out ?_
      (intro K h; go_simp; refine h _ ?_; clear h K)
      first | (refine LeftL.tkG (v := ?_) 26 rfl HS.out ?_ ?_; rotate_left; · intro V hV; obtain ⟨z1, z2, z3, z4, z5, z6, z7, z8, z9⟩ := HFX.out V hV; clear hV; go_simp; rfl) | refine LeftL.tkN 26 rfl HS.out ?_
      (intro K h; go_simp; refine h _ ?_; clear h K)
      first | (refine LeftL.tkG (v := ?_) 27 rfl HS.out ?_ ?_; rotate_left; · intro V hV; obtain ⟨z1, z2, z3, z4, z5, z6, z7, z8, z9⟩ := HFX.out V hV; clear hV; go_simp; rfl) | refine LeftL.tkN 27 rfl HS.out ?_
      (intro K h; go_simp; refine h _ ?_; clear h K)
      first | (refine LeftL.tkG (v := ?_) 28 rfl HS.out ?_ ?_; rotate_left; · intro V hV; obtain ⟨z1, z2, z3, z4, z5, z6, z7, z8, z9⟩ := HFX.out V hV; clear hV; go_simp; rfl) | refine LeftL.tkN 28 rfl HS.out ?_
      (intro K h; go_simp; refine h _ ?_; clear h K)
      first | (refine LeftL.tkG (v := ?_) 29 rfl HS.out ?_ ?_; rotate_left; · intro V hV; obtain ⟨z1, z2, z3, z4, z5, z6, z7, z8, z9⟩ := HFX.out V hV; clear hV; go_simp; rfl) | refine LeftL.tkN 29 rfl HS.out ?_
      (intro K h; go_simp; refine h _ ?_; clear h K)
      first | (refine LeftL.tkG (v := ?_) 30 rfl HS.out ?_ ?_; rotate_left; · intro V hV; obtain ⟨z1, z2, z3, z4, z5, z6, z7, z8, z9⟩ := HFX.out V hV; clear hV; go_simp; rfl) | refine LeftL.tkN 30 rfl HS.out ?_
      (intro K h; go_simp; refine h _ ?_; clear h K)
      first | (refine LeftL.tkG (v := ?_) 31 rfl HS.out ?_ ?_; rotate_left; · intro V hV; obtain ⟨z1, z2, z3, z4, z5, z6, z7, z8, z9⟩ := HFX.out V hV; clear hV; go_simp; rfl) | refine LeftL.tkN 31 rfl HS.out ?_
      (intro K h; go_simp; refine h _ ?_; clear h K)
      first | (refine LeftL.tkG (v := ?_) 32 rfl HS.out ?_ ?_; rotate_left; · intro V hV; obtain ⟨z1, z2, z3, z4, z5, z6, z7, z8, z9⟩ := HFX.out V hV; clear hV; go_simp; rfl) | refine LeftL.tkN 32 rfl HS.out ?_
      (intro K h; go_simp; refine h _ ?_; clear h K)
      first | (refine LeftL.tkG (v := ?_) 33 rfl HS.out ?_ ?_; rotate_left; · intro V hV; obtain ⟨z1, z2, z3, z4, z5, z6, z7, z8, z9⟩ := HFX.out V hV; clear hV; go_simp; rfl) | refine LeftL.tkN 33 rfl HS.out ?_
      (intro K h; go_simp; refine h _ ?_; clear h K)
      first | (refine LeftL.tkG (v := ?_) 34 rfl HS.out ?_ ?_; rotate_left; · intro V hV; obtain ⟨z1, z2, z3, z4, z5, z6, z7, z8, z9⟩ := HFX.out V hV; clear hV; go_simp; rfl) | refine LeftL.tkN 34 rfl HS.out ?_
      (intro K h; go_simp; refine h _ ?_; clear h K)
      first | (refine LeftL.tkG (v := ?_) 35 rfl HS.out ?_ ?_; rotate_left; · intro V hV; obtain ⟨z1, z2, z3, z4, z5, z6, z7, z8, z9⟩ := HFX.out V hV; clear hV; go_simp; rfl) | refine LeftL.tkN 35 rfl HS.out ?_
      (intro K h; go_simp; refine h _ ?_; clear h K)
      refine LeftL.one 36 rfl (by kernel_rfl) ?_
      go_wp2_with fail
      first | refine ⟨fun _ => HS.out, ?_⟩ | refine ⟨HS.out, ?_⟩
      refine LeftL.done (by kernel_rfl) ?_
      have hf := HF.out.call HS.out HF.out.size (by simp)
      clear HF HS HFX HLA HLB
      have HF := Lib.hid hf
      clear hf
      go_wp2_with fail
      exact ⟨⟨j + 1, by simp [y4, y5], HJL.out, HNX2.out, HF.out⟩, by have := HMS.out; simpa [intOf, y4, y5] using this⟩
    subst hk1
    by_cases ho : ox = on
    rotate_left
    · have hob : (ox == on) = false := by simp [ho]
      have hnx := HNX.out (by rw [HSJ2.out]; simp [hne, ho])
      have HNX2 := Lib.hid hnx
      clear hnx
      go_upto_region 7 with fail
      clear d1
      refine wp_region_leftL (fun V => Frm V1.heap.size [] V1 V) 1000 (by kernel_rfl) ?_
      have hS : Frm V1.heap.size [] V1 V1.drew := (Frm.refl _ _ V1).drew
      have HS := Lib.hid hS
      clear hS
      first | (refine LeftL.tkG (v := ?_) 0 rfl HS.out ?_ ?_; rotate_left; · intro V hV; obtain ⟨z1, z2, z3, z4, z5, z6, z7, z8, z9⟩ := HFX.out V hV; clear hV; go_simp; rfl) | refine LeftL.tkN 0 rfl HS.out ?_
      (intro K h; go_simp; refine h _ ?_; clear h K)
      first | (refine LeftL.tkG (v := ?_) 1 rfl HS.out ?_ ?_; rotate_left; · intro V hV; obtain ⟨z1, z2, z3, z4, z5, z6, z7, z8, z9⟩ := HFX.out V hV; clear hV; go_simp; rfl) | refine LeftL.tkN 1 rfl HS.out ?_
      (intro K h; go_simp; refine h _ ?_; clear h K)
      first | (refine LeftL.tkG (v := ?_) 2 rfl HS.out ?_ ?_; rotate_left; · intro V hV; obtain ⟨z1, z2, z3, z4, z5, z6, z7, z8, z9⟩ := HFX.out V hV; clear hV; go_simp; rfl) | refine LeftL.tkN 2 rfl HS.out ?_
      (intro K h; go_simp; refine h _ ?_; clear h K)
      first | (refine LeftL.tkG (v := ?_) 3 rfl HS.out ?_ ?_; rotate_left; · intro V hV; obtain ⟨z1, z2, z3, z4, z5, z6, z7, z8, z9⟩ := HFX.out V hV; clear hV; go_simp; rfl) | refine LeftL.tkN 3 rfl HS.out ?_
      (intro K h; go_simp; refine h _ ?_; clear h K)
      first | (refine LeftL.tkG (v := ?_) 4 rfl HS.out ?_ ?_; rotate_left; · intro V hV; obtain ⟨z1, z2, z3, z4, z5, z6, z7, z8, z9⟩ := HFX.out V hV; clear hV; go_simp; rfl) | refine LeftL.tkN 4 rfl HS.out ?_
      (intro K h; go_simp; refine h _ ?_; clear h K)
      first | (refine LeftL.tkG (v := ?_) 5 rfl HS.out ?_ ?_; rotate_left; · intro V hV; obtain ⟨z1, z2, z3, z4, z5, z6, z7, z8, z9⟩ := HFX.out V hV; clear hV; go_simp; rfl) | refine LeftL.tkN 5 rfl HS.out ?_
      (intro K h; go_simp; refine h _ ?_; clear h K)
      first | (refine LeftL.tkG (v := ?_) 6 rfl HS.out ?_ ?_; rotate_left; · intro V hV; obtain ⟨z1, z2, z3, z4, z5, z6, z7, z8, z9⟩ := HFX.out V hV; clear hV; go_simp; rfl) | refine LeftL.tkN 6 rfl HS.out ?_
      (intro K h; go_simp; refine h _ ?_; clear h K)
      first | (refine LeftL.tkG (v := ?_) 7 rfl HS.out ?_ ?_; rotate_left; · intro V hV; obtain ⟨z1, z2, z3, z4, z5, z6, z7, z8, z9⟩ := HFX.out V hV; clear hV; go_simp; rfl) | refine LeftL.tkN 7 rfl HS.out ?_
      (intro K h; go_simp; refine h _ ?_; clear h K)
      first | (refine LeftL.tkG (v := ?_) 8 rfl HS.out ?_ ?_; rotate_left; · intro V hV; obtain ⟨z1, z2, z3, z4, z5, z6, z7, z8, z9⟩ := HFX.out V hV; clear hV; go_simp; rfl) | refine LeftL.tkN 8 rfl HS.out ?_
      (intro K h; go_simp; refine h _ ?_; clear h K)
      first | (refine LeftL.tkG (v := ?_) 9 rfl HS.out ?_ ?_; rotate_left; · intro V hV; obtain ⟨z1, z2, z3, z4, z5, z6, z7, z8, z9⟩ := HFX.out V hV; clear hV; go_simp; rfl) | refine LeftL.tkN 9 rfl HS.out ?_
      (intro K h; go_simp; refine h _ ?_; clear h K)
      first | (refine LeftL.tkG (v := ?_) 10 rfl HS.out ?_ ?_; rotate_left; · intro V hV; obtain ⟨z1, z2, z3, z4, z5, z6, z7, z8, z9⟩ := HFX.out V hV; clear hV; go_simp; rfl) | refine LeftL.tkN 10 rfl HS.out ?_
      (intro K h; go_simp; refine h _ ?_; clear h K)
      first | (refine LeftL.tkG (v := ?_) 11 rfl HS.out ?_ ?_; rotate_left; · intro V hV; obtain ⟨z1, z2, z3, z4, z5, z6, z7, z8, z9⟩ := HFX.out V hV; clear hV; go_simp; rfl) | refine LeftL.tkN 11 rfl HS.out ?_
      (intro K h; go_simp; refine h _ ?_; clear h K)
      first | (refine LeftL.tkG (v := ?_) 12 rfl HS.out ?_ ?_; rotate_left; · intro V hV; obtain ⟨z1, z2, z3, z4, z5, z6, z7, z8, z9⟩ := HFX.out V hV; clear hV; go_simp; rfl) | refine LeftL.tkN 12 rfl HS.out ?_
      (intro K h; go_simp; refine h _ ?_; clear h K)
      first | (refine LeftL.tkG (v := ?_) 13 rfl HS.out ?_ ?_; rotate_left; · intro V hV; obtain ⟨z1, z2, z3, z4, z5, z6, z7, z8, z9⟩ := HFX.out V hV; clear hV; go_simp; rfl) | refine LeftL.tkN 13 rfl HS.out ?_
      (intro K h; go_simp; refine h _ ?_; clear h K)
      first | (refine LeftL.tkG (v := ?_) 14 rfl HS.out ?_ ?_; rotate_left; · intro V hV; obtain ⟨z1, z2, z3, z4, z5, z6, z7, z8, z9⟩ := HFX.out V hV; clear hV; go_simp; rfl) | refine LeftL.tkN 14 rfl HS.out ?_
      (intro K h; go_simp; refine h _ ?_; clear h K)
      first | (refine LeftL.tkG (v := ?_) 15 rfl HS.out ?_ ?_; rotate_left; · intro V hV; obtain ⟨z1, z2, z3, z4, z5, z6, z7, z8, z9⟩ := HFX.out V hV; clear hV; go_simp; rfl) | refine LeftL.tkN 15 rfl HS.out ?_
      (intro K h; go_simp; refine h _ ?_; clear h K)
      first | (refine LeftL.tkG (v := ?_) 16 rfl HS.out ?_ ?_; rotate_left; · intro V hV; obtain ⟨z1, z2, z3, z4, z5, z6, z7, z8, z9⟩ := HFX.out V hV; clear hV; go_simp; rfl) | refine LeftL.tkN 16 rfl HS.out ?_
      (intro K h; go_simp; refine h _ ?_; clear h K)
      first | (refine LeftL.tkG (v := ?_) 17 rfl HS.out ?_ ?_; rotate_left; · intro V hV; obtain ⟨z1, z2, z3, z4, z5, z6, z7, z8, z9⟩ := HFX.out V hV; clear hV; go_simp; rfl) | refine LeftL.tkN 17 rfl HS.out ?_
      (intro K h; go_simp; refine h _ ?_; clear h K)
      first | (refine LeftL.tkG (v := ?_) 18 rfl HS.out ?_ ?_; rotate_left; · intro V hV; obtain ⟨z1, z2, z3, z4, z5, z6, z7, z8, z9⟩ := HFX.out V hV; clear hV; go_simp; rfl) | refine LeftL.tkN 18 rfl HS.out ?_
      (intro K h; go_simp; refine h _ ?_; clear h K)
      first | (refine LeftL.tkG (v := ?_) 19 rfl HS.out ?_ ?_; rotate_left; · intro V hV; obtain ⟨z1, z2, z3, z4, z5, z6, z7, z8, z9⟩ := HFX.out V hV; clear hV; go_simp; rfl) | refine LeftL.tkN 19 rfl HS.out ?_
      (intro K h; go_simp; refine h _ ?_; clear h K)
      first | (refine LeftL.tkG (v := ?_) 20 rfl HS.out ?_ ?_; rotate_left; · intro V hV; obtain ⟨z1, z2, z3, z4, z5, z6, z7, z8, z9⟩ := HFX.out V hV; clear hV; go_simp; rfl) | refine LeftL.tkN 20 rfl HS.out ?_
      (intro K h; go_simp; refine h _ ?_; clear h K)
      first | (refine LeftL.tkG (v := ?_) 21 rfl HS.out ?_ ?_; rotate_left; · intro V hV; obtain ⟨z1, z2, z3, z4, z5, z6, z7, z8, z9⟩ := HFX.out V hV; clear hV; go_simp; rfl) | refine LeftL.tkN 21 rfl HS.out ?_
      (intro K h; go_simp; refine h _ ?_; clear h K)
      first | (refine LeftL.tkG (v := ?_) 22 rfl HS.out ?_ ?_; rotate_left; · intro V hV; obtain ⟨z1, z2, z3, z4, z5, z6, z7, z8, z9⟩ := HFX.out V hV; clear hV; go_simp; rfl) | refine LeftL.tkN 22 rfl HS.out ?_
      (intro K h; go_simp; refine h _ ?_; clear h K)
      first | (refine LeftL.tkG (v := ?_) 23 rfl HS.out ?_ ?_; rotate_left; · intro V hV; obtain ⟨z1, z2, z3, z4, z5, z6, z7, z8, z9⟩ := HFX.out V hV; clear hV; go_simp; rfl) | refine LeftL.tkN 23 rfl HS.out ?_
      (intro K h; go_simp; refine h _ ?_; clear h K)
      first | (refine LeftL.tkG (v := ?_) 24 rfl HS.out ?_ ?_; rotate_left; · intro V hV; obtain ⟨z1, z2, z3, z4, z5, z6, z7, z8, z9⟩ := HFX.out V hV; clear hV; go_simp; rfl) | refine LeftL.tkN 24 rfl HS.out ?_
      (intro K h; go_simp; refine h _ ?_; clear h K)
      first | (refine LeftL.tkG (v := ?_) 25 rfl HS.out ?_ ?_; rotate_left; · intro V hV; obtain ⟨z1, z2, z3, z4, z5, z6, z7, z8, z9⟩ := HFX.out V hV; clear hV; go_simp; rfl) | refine LeftL.tkN 25 rfl HS.out ?_
      (intro K h; go_simp; refine h _ ?_; clear h K)
      first | (refine LeftL.tkG (v := ?_) 26 rfl HS.out ?_ ?_; rotate_left; · intro V hV; obtain ⟨z1, z2, z3, z4, z5, z6, z7, z8, z9⟩ := HFX.out V hV; clear hV; go_simp; rfl) | refine LeftL.tkN 26 rfl HS.out ?_
      (intro K h; go_simp; refine h _ ?_; clear h K)
      first | (refine LeftL.tkG (v := ?_) 27 rfl HS.out ?_ ?_; rotate_left; · intro V hV; obtain ⟨z1, z2, z3, z4, z5, z6, z7, z8, z9⟩ := HFX.out V hV; clear hV; go_simp; rfl) | refine LeftL.tkN 27 rfl HS.out ?_
      (intro K h; go_simp; refine h _ ?_; clear h K)
      first | (refine LeftL.tkG (v := ?_) 28 rfl HS.out ?_ ?_; rotate_left; · intro V hV; obtain ⟨z1, z2, z3, z4, z5, z6, z7, z8, z9⟩ := HFX.out V hV; clear hV; go_simp; rfl) | refine LeftL.tkN 28 rfl HS.out ?_
      (intro K h; go_simp; refine h _ ?_; clear h K)
      first | (refine LeftL.tkG (v := ?_) 29 rfl HS.out ?_ ?_; rotate_left; · intro V hV; obtain ⟨z1, z2, z3, z4, z5, z6, z7, z8, z9⟩ := HFX.out V hV; clear hV; go_simp; rfl) | refine LeftL.tkN 29 rfl HS.out ?_
      (intro K h; go_simp; refine h _ ?_; clear h K)
      first | (refine LeftL.tkG (v := ?_) 30 rfl HS.out ?_ ?_; rotate_left; · intro V hV; obtain ⟨z1, z2, z3, z4, z5, z6, z7, z8, z9⟩ := HFX.out V hV; clear hV; go_simp; rfl) | refine LeftL.tkN 30 rfl HS.out ?_
      (intro K h; go_simp; refine h _ ?_; clear h K)
      first | (refine LeftL.tkG (v := ?_) 31 rfl HS.out ?_ ?_; rotate_left; · intro V hV; obtain ⟨z1, z2, z3, z4, z5, z6, z7, z8, z9⟩ := HFX.out V hV; clear hV; go_simp; rfl) | refine LeftL.tkN 31 rfl HS.out ?_
      (intro K h; go_simp; refine h _ ?_; clear h K)
      first | (refine LeftL.tkG (v := ?_) 32 rfl HS.out ?_ ?_; rotate_left; · intro V hV; obtain ⟨z1, z2, z3, z4, z5, z6, z7, z8, z9⟩ := HFX.out V hV; clear hV; go_simp; rfl) | refine LeftL.tkN 32 rfl HS.out ?_
      (intro K h; go_simp; refine h _ ?_; clear h K)
      first | (refine LeftL.tkG (v := ?_) 33 rfl HS.out ?_ ?_; rotate_left; · intro V hV; obtain ⟨z1, z2, z3, z4, z5, z6, z7, z8, z9⟩ := HFX.out V hV; clear hV; go_simp; rfl) | refine LeftL.tkN 33 rfl HS.out ?_
      (intro K h; go_simp; refine h _ ?_; clear h K)
      first | (refine LeftL.tkG (v := ?_) 34 rfl HS.out ?_ ?_; rotate_left; · intro V hV; obtain ⟨z1, z2, z3, z4, z5, z6, z7, z8, z9⟩ := HFX.out V hV; clear hV; go_simp; rfl) | refine LeftL.tkN 34 rfl HS.out ?_
      (intro K h; go_simp; refine h _ ?_; clear h K)
      first | (refine LeftL.tkG (v := ?_) 35 rfl HS.out ?_ ?_; rotate_left; · intro V hV; obtain ⟨z1, z2, z3, z4, z5, z6, z7, z8, z9⟩ := HFX.out V hV; clear hV; go_simp; rfl) | refine LeftL.tkN 35 rfl HS.out ?_
      (intro K h; go_simp; refine h _ ?_; clear h K)
      refine LeftL.one 36 rfl (by kernel_rfl) ?_
      go_wp2_with fail
      first | refine ⟨fun _ => HS.out, ?_⟩ | refine ⟨HS.out, ?_⟩
      refine LeftL.done (by kernel_rfl) ?_
      have hf := HF.out.call HS.out HF.out.size (by simp)
      clear HF HS HFX HLA HLB
      have HF := Lib.hid hf
      clear hf
      go_wp2_with fail
      exact ⟨⟨j + 1, by simp [y4, y5], HJL.out, HNX2.out, HF.out⟩, by have := HMS.out; simpa [intOf, y4, y5] using this⟩
    subst ho
    by_cases ht : tn ≤ tp
    rotate_left
    · have hnx := HNX.out (by rw [HSJ2.out]; simp [hne, ht])
      have HNX2 := Lib.hid hnx
      clear hnx
      go_upto_region 7 with fail
      clear d1
      refine wp_region_leftL (fun V => Frm V1.heap.size [] V1 V) 1000 (by kernel_rfl) ?_
      have hS : Frm V1.heap.size [] V1 V1.drew := (Frm.refl _ _ V1).drew
      have HS := Lib.hid hS
      clear hS
      first | (refine LeftL.tkG (v := ?_) 0 rfl HS.out ?_ ?_; rotate_left; · intro V hV; obtain ⟨z1, z2, z3, z4, z5, z6, z7, z8, z9⟩ := HFX.out V hV; clear hV; go_simp; rfl) | refine LeftL.tkN 0 rfl HS.out ?_
      (intro K h; go_simp; refine h _ ?_; clear h K)
      first | (refine LeftL.tkG (v := ?_) 1 rfl HS.out ?_ ?_; rotate_left; · intro V hV; obtain ⟨z1, z2, z3, z4, z5, z6, z7, z8, z9⟩ := HFX.out V hV; clear hV; go_simp; rfl) | refine LeftL.tkN 1 rfl HS.out ?_
      (intro K h; go_simp; refine h _ ?_; clear h K)
      first | (refine LeftL.tkG (v := ?_) 2 rfl HS.out ?_ ?_; rotate_left; · intro V hV; obtain ⟨z1, z2, z3, z4, z5, z6, z7, z8, z9⟩ := HFX.out V hV; clear hV; go_simp; rfl) | refine LeftL.tkN 2 rfl HS.out ?_
      (intro K h; go_simp; refine h _ ?_; clear h K)
      first | (refine LeftL.tkG (v := ?_) 3 rfl HS.out ?_ ?_; rotate_left; · intro V hV; obtain ⟨z1, z2, z3, z4, z5, z6, z7, z8, z9⟩ := HFX.out V hV; clear hV; go_simp; rfl) | refine LeftL.tkN 3 rfl HS.out ?_
      (intro K h; go_simp; refine h _ ?_; clear h K)
      first | (refine LeftL.tkG (v := ?_) 4 rfl HS.out ?_ ?_; rotate_left; · intro V hV; obtain ⟨z1, z2, z3, z4, z5, z6, z7, z8, z9⟩ := HFX.out V hV; clear hV; go_simp; rfl) | refine LeftL.tkN 4 rfl HS.out ?_
      (intro K h; go_simp; refine h _ ?_; clear h K)
      first | (refine LeftL.tkG (v := ?_) 5 rfl HS.out ?_ ?_; rotate_left; · intro V hV; obtain ⟨z1, z2, z3, z4, z5, z6, z7, z8, z9⟩ := HFX.out V hV; clear hV; go_simp; rfl) | refine LeftL.tkN 5 rfl HS.out ?_
      (intro K h; go_simp; refine h _ ?_; clear h K)
      first | (refine LeftL.tkG (v := ?_) 6 rfl HS.out ?_ ?_; rotate_left; · intro V hV; obtain ⟨z1, z2, z3, z4, z5, z6, z7, z8, z9⟩ := HFX.out V hV; clear hV; go_simp; rfl) | refine LeftL.tkN 6 rfl HS.out ?_
      (intro K h; go_simp; refine h _ ?_; clear h K)
      first | (refine LeftL.tkG (v := ?_) 7 rfl HS.out ?_ ?_; rotate_left; · intro V hV; obtain ⟨z1, z2, z3, z4, z5, z6, z7, z8, z9⟩ := HFX.out V hV; clear hV; go_simp; rfl) | refine LeftL.tkN 7 rfl HS.out ?_
      (intro K h; go_simp; refine h _ ?_; clear h K)
      first | (refine LeftL.tkG (v := ?_) 8 rfl HS.out ?_ ?_; rotate_left; · intro V hV; obtain ⟨z1, z2, z3, z4, z5, z6, z7, z8, z9⟩ := HFX.out V hV; clear hV; go_simp; rfl) | refine LeftL.tkN 8 rfl HS.out ?_
      (intro K h; go_simp; refine h _ ?_; clear h K)
      first | (refine LeftL.tkG (v := ?_) 9 rfl HS.out ?_ ?_; rotate_left; · intro V hV; obtain ⟨z1, z2, z3, z4, z5, z6, z7, z8, z9⟩ := HFX.out V hV; clear hV; go_simp; rfl) | refine LeftL.tkN 9 rfl HS.out ?_
      (intro K h; go_simp; refine h _ ?_; clear h K)
      first | (refine LeftL.tkG (v := ?_) 10 rfl HS.out ?_ ?_; rotate_left; · intro V hV; obtain ⟨z1, z2, z3, z4, z5, z6, z7, z8, z9⟩ := HFX.out V hV; clear hV; go_simp; rfl) | refine LeftL.tkN 10 rfl HS.out ?_
      (intro K h; go_simp; refine h _ ?_; clear h K)
      first | (refine LeftL.tkG (v := ?_) 11 rfl HS.out ?_ ?_; rotate_left; · intro V hV; obtain ⟨z1, z2, z3, z4, z5, z6, z7, z8, z9⟩ := HFX.out V hV; clear hV; go_simp; rfl) | refine LeftL.tkN 11 rfl HS.out ?_
      (intro K h; go_simp; refine h _ ?_; clear h K)
      first | (refine LeftL.tkG (v := ?_) 12 rfl HS.out ?_ ?_; rotate_left; · intro V hV; obtain ⟨z1, z2, z3, z4, z5, z6, z7, z8, z9⟩ := HFX.out V hV; clear hV; go_simp; rfl) | refine LeftL.tkN 12 rfl HS.out ?_
      (intro K h; go_simp; refine h _ ?_; clear h K)
      first | (refine LeftL.tkG (v := ?_) 13 rfl HS.out ?_ ?_; rotate_left; · intro V hV; obtain ⟨z1, z2, z3, z4, z5, z6, z7, z8, z9⟩ := HFX.out V hV; clear hV; go_simp; rfl) | refine LeftL.tkN 13 rfl HS.out ?_
      (intro K h; go_simp; refine h _ ?_; clear h K)
      first | (refine LeftL.tkG (v := ?_) 14 rfl HS.out ?_ ?_; rotate_left; · intro V hV; obtain ⟨z1, z2, z3, z4, z5, z6, z7, z8, z9⟩ := HFX.out V hV; clear hV; go_simp; rfl) | refine LeftL.tkN 14 rfl HS.out ?_
      (intro K h; go_simp; refine h _ ?_; clear h K)
      first | (refine LeftL.tkG (v := ?_) 15 rfl HS.out ?_ ?_; rotate_left; · intro V hV; obtain ⟨z1, z2, z3, z4, z5, z6, z7, z8, z9⟩ := HFX.out V hV; clear hV; go_simp; rfl) | refine LeftL.tkN 15 rfl HS.out ?_
      (intro K h; go_simp; refine h _ ?_; clear h K)
      first | (refine LeftL.tkG (v := ?_) 16 rfl HS.out ?_ ?_; rotate_left; · intro V hV; obtain ⟨z1, z2, z3, z4, z5, z6, z7, z8, z9⟩ := HFX.out V hV; clear hV; go_simp; rfl) | refine LeftL.tkN 16 rfl HS.out ?_
      (intro K h; go_simp; refine h _ ?_; clear h K)
      first | (refine LeftL.tkG (v := ?_) 17 rfl HS.out ?_ ?_; rotate_left; · intro V hV; obtain ⟨z1, z2, z3, z4, z5, z6, z7, z8, z9⟩ := HFX.out V hV; clear hV; go_simp; rfl) | refine LeftL.tkN 17 rfl HS.out ?_
      (intro K h; go_simp; refine h _ ?_; clear h K)
      first | (refine LeftL.tkG (v := ?_) 18 rfl HS.out ?_ ?_; rotate_left; · intro V hV; obtain ⟨z1, z2, z3, z4, z5, z6, z7, z8, z9⟩ := HFX.out V hV; clear hV; go_simp; rfl) | refine LeftL.tkN 18 rfl HS.out ?_
      (intro K h; go_simp; refine h _ ?_; clear h K)
      first | (refine LeftL.tkG (v := ?_) 19 rfl HS.out ?_ ?_; rotate_left; · intro V hV; obtain ⟨z1, z2, z3, z4, z5, z6, z7, z8, z9⟩ := HFX.out V hV; clear hV; go_simp; rfl) | refine LeftL.tkN 19 rfl HS.out ?_
      (intro K h; go_simp; refine h _ ?_; clear h K)
      first | (refine LeftL.tkG (v := ?_) 20 rfl HS.out ?_ ?_; rotate_left; · intro V hV; obtain ⟨z1, z2, z3, z4, z5, z6, z7, z8, z9⟩ := HFX.out V hV; clear hV; go_simp; rfl) | refine LeftL.tkN 20 rfl HS.out ?_
      (intro K h; go_simp; refine h _ ?_; clear h K)
      first | (refine LeftL.tkG (v := ?_) 21 rfl HS.out ?_ ?_; rotate_left; · intro V hV; obtain ⟨z1, z2, z3, z4, z5, z6, z7, z8, z9⟩ := HFX.out V hV; clear hV; go_simp; rfl) | refine LeftL.tkN 21 rfl HS.out ?_
      (intro K h; go_simp; refine h _ ?_; clear h K)
      first | (refine LeftL.tkG (v := ?_) 22 rfl HS.out ?_ ?_; rotate_left; · intro V hV; obtain ⟨z1, z2, z3, z4, z5, z6, z7, z8, z9⟩ := HFX.out V hV; clear hV; go_simp; rfl) | refine LeftL.tkN 22 rfl HS.out ?_
      (intro K h; go_simp; refine h _ ?_; clear h K)
      first | (refine LeftL.tkG (v := ?_) 23 rfl HS.out ?_ ?_; rotate_left; · intro V hV; obtain ⟨z1, z2, z3, z4, z5, z6, z7, z8, z9⟩ := HFX.out V hV; clear hV; go_simp; rfl) | refine LeftL.tkN 23 rfl HS.out ?_
      (intro K h; go_simp; refine h _ ?_; clear h K)
      first | (refine LeftL.tkG (v := ?_) 24 rfl HS.out ?_ ?_; rotate_left; · intro V hV; obtain ⟨z1, z2, z3, z4, z5, z6, z7, z8, z9⟩ := HFX.out V hV; clear hV; go_simp; rfl) | refine LeftL.tkN 24 rfl HS.out ?_
      (intro K h; go_simp; refine h _ ?_; clear h K)
      first | (refine LeftL.tkG (v := ?_) 25 rfl HS.out ?_ ?_; rotate_left; · intro V hV; obtain ⟨z1, z2, z3, z4, z5, z6, z7, z8, z9⟩ := HFX.out V hV; clear hV; go_simp; rfl) | refine LeftL.tkN 25 rfl HS.out ?_
      (intro K h; go_simp; refine h _ ?_; clear h K)
      first | (refine LeftL.tkG (v := ?_) 26 rfl HS.out ?_ ?_; rotate_left; · intro V hV; obtain ⟨z1, z2, z3, z4, z5, z6, z7, z8, z9⟩ := HFX.out V hV; clear hV; go_simp; rfl) | refine LeftL.tkN 26 rfl HS.out ?_
      (intro K h; go_simp; refine h _ ?_; clear h K)
      first | (refine LeftL.tkG (v := ?_) 27 rfl HS.out ?_ ?_; rotate_left; · intro V hV; obtain ⟨z1, z2, z3, z4, z5, z6, z7, z8, z9⟩ := HFX.out V hV; clear hV; go_simp; rfl) | refine LeftL.tkN 27 rfl HS.out ?_
      (intro K h; go_simp; refine h _ ?_; clear h K)
      first | (refine LeftL.tkG (v := ?_) 28 rfl HS.out ?_ ?_; rotate_left; · intro V hV; obtain ⟨z1, z2, z3, z4, z5, z6, z7, z8, z9⟩ := HFX.out V hV; clear hV; go_simp; rfl) | refine LeftL.tkN 28 rfl HS.out ?_
      (intro K h; go_simp; refine h _ ?_; clear h K)
      first | (refine LeftL.tkG (v := ?_) 29 rfl HS.out ?_ ?_; rotate_left; · intro V hV; obtain ⟨z1, z2, z3, z4, z5, z6, z7, z8, z9⟩ := HFX.out V hV; clear hV; go_simp; rfl) | refine LeftL.tkN 29 rfl HS.out ?_
      (intro K h; go_simp; refine h _ ?_; clear h K)
      first | (refine LeftL.tkG (v := ?_) 30 rfl HS.out ?_ ?_; rotate_left; · intro V hV; obtain ⟨z1, z2, z3, z4, z5, z6, z7, z8, z9⟩ := HFX.out V hV; clear hV; go_simp; rfl) | refine LeftL.tkN 30 rfl HS.out ?_
      (intro K h; go_simp; refine h _ ?_; clear h K)
      first | (refine LeftL.tkG (v := ?_) 31 rfl HS.out ?_ ?_; rotate_left; · intro V hV; obtain ⟨z1, z2, z3, z4, z5, z6, z7, z8, z9⟩ := HFX.out V hV; clear hV; go_simp; rfl) | refine LeftL.tkN 31 rfl HS.out ?_
      (intro K h; go_simp; refine h _ ?_; clear h K)
      first | (refine LeftL.tkG (v := ?_) 32 rfl HS.out ?_ ?_; rotate_left; · intro V hV; obtain ⟨z1, z2, z3, z4, z5, z6, z7, z8, z9⟩ := HFX.out V hV; clear hV; go_simp; rfl) | refine LeftL.tkN 32 rfl HS.out ?_
      (intro K h; go_simp; refine h _ ?_; clear h K)
      first | (refine LeftL.tkG (v := ?_) 33 rfl HS.out ?_ ?_; rotate_left; · intro V hV; obtain ⟨z1, z2, z3, z4, z5, z6, z7, z8, z9⟩ := HFX.out V hV; clear hV; go_simp; rfl) | refine LeftL.tkN 33 rfl HS.out ?_
      (intro K h; go_simp; refine h _ ?_; clear h K)
      first | (refine LeftL.tkG (v := ?_) 34 rfl HS.out ?_ ?_; rotate_left; · intro V hV; obtain ⟨z1, z2, z3, z4, z5, z6, z7, z8, z9⟩ := HFX.out V hV; clear hV; go_simp; rfl) | refine LeftL.tkN 34 rfl HS.out ?_
      (intro K h; go_simp; refine h _ ?_; clear h K)
      first | (refine LeftL.tkG (v := ?_) 35 rfl HS.out ?_ ?_; rotate_left; · intro V hV; obtain ⟨z1, z2, z3, z4, z5, z6, z7, z8, z9⟩ := HFX.out V hV; clear hV; go_simp; rfl) | refine LeftL.tkN 35 rfl HS.out ?_
      (intro K h; go_simp; refine h _ ?_; clear h K)
      refine LeftL.one 36 rfl (by kernel_rfl) ?_
      go_wp2_with fail
      first | refine ⟨fun _ => HS.out, ?_⟩ | refine ⟨HS.out, ?_⟩
      refine LeftL.done (by kernel_rfl) ?_
      have hf := HF.out.call HS.out HF.out.size (by simp)
      clear HF HS HFX HLA HLB
      have HF := Lib.hid hf
      clear hf
      go_wp2_with fail
      exact ⟨⟨j + 1, by simp [y4, y5], HJL.out, HNX2.out, HF.out⟩, by have := HMS.out; simpa [intOf, y4, y5] using this⟩
    go_upto_region 7 with fail
    clear d1
    refine wp_region_leftL (fun V => Frm V1.heap.size [] V1 V) 1000 (by kernel_rfl) ?_
    have hS : Frm V1.heap.size [] V1 V1.drew := (Frm.refl _ _ V1).drew
    have HS := Lib.hid hS
    clear hS
    first | (refine LeftL.tkG (v := ?_) 0 rfl HS.out ?_ ?_; rotate_left; · intro V hV; obtain ⟨z1, z2, z3, z4, z5, z6, z7, z8, z9⟩ := HFX.out V hV; clear hV; go_simp; rfl) | refine LeftL.tkN 0 rfl HS.out ?_
    (intro K h; go_simp; refine h _ ?_; clear h K)
    first | (refine LeftL.tkG (v := ?_) 1 rfl HS.out ?_ ?_; rotate_left; · intro V hV; obtain ⟨z1, z2, z3, z4, z5, z6, z7, z8, z9⟩ := HFX.out V hV; clear hV; go_simp; rfl) | refine LeftL.tkN 1 rfl HS.out ?_
    (intro K h; go_simp; refine h _ ?_; clear h K)
    first | (refine LeftL.tkG (v := ?_) 2 rfl HS.out ?_ ?_; rotate_left; · intro V hV; obtain ⟨z1, z2, z3, z4, z5, z6, z7, z8, z9⟩ := HFX.out V hV; clear hV; go_simp; rfl) | refine LeftL.tkN 2 rfl HS.out ?_
    (intro K h; go_simp; refine h _ ?_; clear h K)
    first | (refine LeftL.tkG (v := ?_) 3 rfl HS.out ?_ ?_; rotate_left; · intro V hV; obtain ⟨z1, z2, z3, z4, z5, z6, z7, z8, z9⟩ := HFX.out V hV; clear hV; go_simp; rfl) | refine LeftL.tkN 3 rfl HS.out ?_
    (intro K h; go_simp; refine h _ ?_; clear h K)
    first | (refine LeftL.tkG (v := ?_) 4 rfl HS.out ?_ ?_; rotate_left; · intro V hV; obtain ⟨z1, z2, z3, z4, z5, z6, z7, z8, z9⟩ := HFX.out V hV; clear hV; go_simp; rfl) | refine LeftL.tkN 4 rfl HS.out ?_
    (intro K h; go_simp; refine h _ ?_; clear h K)
    first | (refine LeftL.tkG (v := ?_) 5 rfl HS.out ?_ ?_; rotate_left; · intro V hV; obtain ⟨z1, z2, z3, z4, z5, z6, z7, z8, z9⟩ := HFX.out V hV; clear hV; go_simp; rfl) | refine LeftL.tkN 5 rfl HS.out ?_
    (intro K h; go_simp; refine h _ ?_; clear h K)
    first | (refine LeftL.tkG (v := ?_) 6 rfl HS.out ?_ ?_; rotate_left; · intro V hV; obtain ⟨z1, z2, z3, z4, z5, z6, z7, z8, z9⟩ := HFX.out V hV; clear hV; go_simp; rfl) | refine LeftL.tkN 6 rfl HS.out ?_
    (intro K h; go_simp; refine h _ ?_; clear h K)
    first | (refine LeftL.tkG (v := ?_) 7 rfl HS.out ?_ ?_; rotate_left; · intro V hV; obtain ⟨z1, z2, z3, z4, z5, z6, z7, z8, z9⟩ := HFX.out V hV; clear hV; go_simp; rfl) | refine LeftL.tkN 7 rfl HS.out ?_
    (intro K h; go_simp; refine h _ ?_; clear h K)
    first | (refine LeftL.tkG (v := ?_) 8 rfl HS.out ?_ ?_; rotate_left; · intro V hV; obtain ⟨z1, z2, z3, z4, z5, z6, z7, z8, z9⟩ := HFX.out V hV; clear hV; go_simp; rfl) | refine LeftL.tkN 8 rfl HS.out ?_
    (intro K h; go_simp; refine h _ ?_; clear h K)
    first | (refine LeftL.tkG (v := ?_) 9 rfl HS.out ?_ ?_; rotate_left; · intro V hV; obtain ⟨z1, z2, z3, z4, z5, z6, z7, z8, z9⟩ := HFX.out V hV; clear hV; go_simp; rfl) | refine LeftL.tkN 9 rfl HS.out ?_
    (intro K h; go_simp; refine h _ ?_; clear h K)
    first | (refine LeftL.tkG (v := ?_) 10 rfl HS.out ?_ ?_; rotate_left; · intro V hV; obtain ⟨z1, z2, z3, z4, z5, z6, z7, z8, z9⟩ := HFX.out V hV; clear hV; go_simp; rfl) | refine LeftL.tkN 10 rfl HS.out ?_
    (intro K h; go_simp; refine h _ ?_; clear h K)
    first | (refine LeftL.tkG (v := ?_) 11 rfl HS.out ?_ ?_; rotate_left; · intro V hV; obtain ⟨z1, z2, z3, z4, z5, z6, z7, z8, z9⟩ := HFX.out V hV; clear hV; go_simp; rfl) | refine LeftL.tkN 11 rfl HS.out ?_
    (intro K h; go_simp; refine h _ ?_; clear h K)
    first | (refine LeftL.tkG (v := ?_) 12 rfl HS.out ?_ ?_; rotate_left; · intro V hV; obtain ⟨z1, z2, z3, z4, z5, z6, z7, z8, z9⟩ := HFX.out V hV; clear hV; go_simp; rfl) | refine LeftL.tkN 12 rfl HS.out ?_
    (intro K h; go_simp; refine h _ ?_; clear h K)
    first | (refine LeftL.tkG (v := ?_) 13 rfl HS.out ?_ ?_; rotate_left; · intro V hV; obtain ⟨z1, z2, z3, z4, z5, z6, z7, z8, z9⟩ := HFX.out V hV; clear hV; go_simp; rfl) | refine LeftL.tkN 13 rfl HS.out ?_
    (intro K h; go_simp; refine h _ ?_; clear h K)
    first | (refine LeftL.tkG (v := ?_) 14 rfl HS.out ?_ ?_; rotate_left; · intro V hV; obtain ⟨z1, z2, z3, z4, z5, z6, z7, z8, z9⟩ := HFX.out V hV; clear hV; go_simp; rfl) | refine LeftL.tkN 14 rfl HS.out ?_
    (intro K h; go_simp; refine h _ ?_; clear h K)
    first | (refine LeftL.tkG (v := ?_) 15 rfl HS.out ?_ ?_; rotate_left; · intro V hV; obtain ⟨z1, z2, z3, z4, z5, z6, z7, z8, z9⟩ := HFX.out V hV; clear hV; go_simp; rfl) | refine LeftL.tkN 15 rfl HS.out ?_
    (intro K h; go_simp; refine h _ ?_; clear h K)
    first | (refine LeftL.tkG (v := ?_) 16 rfl HS.out ?_ ?_; rotate_left; · intro V hV; obtain ⟨z1, z2, z3, z4, z5, z6, z7, z8, z9⟩ := HFX.out V hV; clear hV; go_simp; rfl) | refine LeftL.tkN 16 rfl HS.out ?_
    (intro K h; go_simp; refine h _ ?_; clear h K)
    first | (refine LeftL.tkG (v := ?_) 17 rfl HS.out ?_ ?_; rotate_left; · intro V hV; obtain ⟨z1, z2, z3, z4, z5, z6, z7, z8, z9⟩ := HFX.out V hV; clear hV; go_simp; rfl) | refine LeftL.tkN 17 rfl HS.out ?_
    (intro K h; go_simp; refine h _ ?_; clear h K)
    first | (refine LeftL.tkG (v := ?_) 18 rfl HS.out ?_ ?_; rotate_left; · intro V hV; obtain ⟨z1, z2, z3, z4, z5, z6, z7, z8, z9⟩ := HFX.out V hV; clear hV; go_simp; rfl) | refine LeftL.tkN 18 rfl HS.out ?_
    (intro K h; go_simp; refine h _ ?_; clear h K)
    first | (refine LeftL.tkG (v := ?_) 19 rfl HS.out ?_ ?_; rotate_left; · intro V hV; obtain ⟨z1, z2, z3, z4, z5, z6, z7, z8, z9⟩ := HFX.out V hV; clear hV; go_simp; rfl) | refine LeftL.tkN 19 rfl HS.out ?_
    (intro K h; go_simp; refine h _ ?_; clear h K)
    first | (refine LeftL.tkG (v := ?_) 20 rfl HS.out ?_ ?_; rotate_left; · intro V hV; obtain ⟨z1, z2, z3, z4, z5, z6, z7, z8, z9⟩ := HFX.out V hV; clear hV; go_simp; rfl) | refine LeftL.tkN 20 rfl HS.out ?_
    (intro K h; go_simp; refine h _ ?_; clear h K)
    first | (refine LeftL.tkG (v := ?_) 21 rfl HS.out ?_ ?_; rotate_left; · intro V hV; obtain ⟨z1, z2, z3, z4, z5, z6, z7, z8, z9⟩ := HFX.out V hV; clear hV; go_simp; rfl) | refine LeftL.tkN 21 rfl HS.out ?_
    (intro K h; go_simp; refine h _ ?_; clear h K)
    first | (refine LeftL.tkG (v := ?_) 22 rfl HS.out ?_ ?_; rotate_left; · intro V hV; obtain ⟨z1, z2, z3, z4, z5, z6, z7, z8, z9⟩ := HFX.out V hV; clear hV; go_simp; rfl) | refine LeftL.tkN 22 rfl HS.out ?_
    (intro K h; go_simp; refine h _ ?_; clear h K)
    first | (refine LeftL.tkG (v := ?_) 23 rfl HS.out ?_ ?_; rotate_left; · intro V hV; obtain ⟨z1, z2, z3, z4, z5, z6, z7, z8, z9⟩ := HFX.out V hV; clear hV; go_simp; rfl) | refine LeftL.tkN 23 rfl HS.out ?_
    (intro K h; go_simp; refine h _ ?_; clear h K)
    first | (refine LeftL.tkG (v := ?_) 24 rfl HS.out ?_ ?_; rotate_left; · intro V hV; obtain ⟨z1, z2, z3, z4, z5, z6, z7, z8, z9⟩ := HFX.out V hV; clear hV; go_simp; rfl) | refine LeftL.tkN 24 rfl HS.out ?_
    (intro K h; go_simp; refine h _ ?_; clear h K)
    first | (refine LeftL.tkG (v := ?_) 25 rfl HS.out ?_ ?_; rotate_left; · intro V hV; obtain ⟨z1, z2, z3, z4, z5, z6, z7, z8, z9⟩ := HFX.out V hV; clear hV; go_simp; rfl) | refine LeftL.tkN 25 rfl HS.out ?_
    (intro K h; go_simp; refine h _ ?_; clear h K)
    first | (refine LeftL.tkG (v := ?_) 26 rfl HS.out ?_ ?_; rotate_left; · intro V hV; obtain ⟨z1, z2, z3, z4, z5, z6, z7, z8, z9⟩ := HFX.out V hV; clear hV; go_simp; rfl) | refine LeftL.tkN 26 rfl HS.out ?_
    (intro K h; go_simp; refine h _ ?_; clear h K)
    first | (refine LeftL.tkG (v := ?_) 27 rfl HS.out ?_ ?_; rotate_left; · intro V hV; obtain ⟨z1, z2, z3, z4, z5, z6, z7, z8, z9⟩ := HFX.out V hV; clear hV; go_simp; rfl) | refine LeftL.tkN 27 rfl HS.out ?_
    (intro K h; go_simp; refine h _ ?_; clear h K)
    first | (refine LeftL.tkG (v := ?_) 28 rfl HS.out ?_ ?_; rotate_left; · intro V hV; obtain ⟨z1, z2, z3, z4, z5, z6, z7, z8, z9⟩ := HFX.out V hV; clear hV; go_simp; rfl) | refine LeftL.tkN 28 rfl HS.out ?_
    (intro K h; go_simp; refine h _ ?_; clear h K)
    refine LeftL.take 29 rfl (by kernel_rfl) (fun _ _ d _ _ h => by cases d <;> exact h) (yields_loadG (ty := 39) rfl rfl rfl (HLA.out)) HS.out ?_; (intro K' hK'; go_simp; refine hK' _ ?_; clear hK' K')
    first | (refine LeftL.tkG (v := ?_) 30 rfl HS.out ?_ ?_; rotate_left; · intro V hV; obtain ⟨z1, z2, z3, z4, z5, z6, z7, z8, z9⟩ := HFX.out V hV; clear hV; go_simp; rfl) | refine LeftL.tkN 30 rfl HS.out ?_
    (intro K h; go_simp; refine h _ ?_; clear h K)
    first | (refine LeftL.tkG (v := ?_) 31 rfl HS.out ?_ ?_; rotate_left; · intro V hV; obtain ⟨z1, z2, z3, z4, z5, z6, z7, z8, z9⟩ := HFX.out V hV; clear hV; go_simp; rfl) | refine LeftL.tkN 31 rfl HS.out ?_
    (intro K h; go_simp; refine h _ ?_; clear h K)
    first | (refine LeftL.tkG (v := ?_) 32 rfl HS.out ?_ ?_; rotate_left; · intro V hV; obtain ⟨z1, z2, z3, z4, z5, z6, z7, z8, z9⟩ := HFX.out V hV; clear hV; go_simp; rfl) | refine LeftL.tkN 32 rfl HS.out ?_
    (intro K h; go_simp; refine h _ ?_; clear h K)
    first | (refine LeftL.tkG (v := ?_) 33 rfl HS.out ?_ ?_; rotate_left; · intro V hV; obtain ⟨z1, z2, z3, z4, z5, z6, z7, z8, z9⟩ := HFX.out V hV; clear hV; go_simp; rfl) | refine LeftL.tkN 33 rfl HS.out ?_
    (intro K h; go_simp; refine h _ ?_; clear h K)
    refine LeftL.take 34 rfl (by kernel_rfl) (fun _ _ d _ _ h => by cases d <;> exact h) (yields_loadG (ty := 24) rfl rfl rfl (HLB.out)) HS.out ?_; (intro K' hK'; go_simp; refine hK' _ ?_; clear hK' K')
    refine LeftL.one 35 rfl (by kernel_rfl) ?_
    go_wp2_with fail
    refine (HFP.out _).mono ?_; rintro e w1 ⟨rfl, hf1⟩
    have hS1 := HS.out.call hf1 HS.out.size (by simp)
    clear hf1 HS
    have HS := Lib.hid hS1
    clear hS1
    go_wp2_with fail
    first | refine ⟨fun _ => HS.out, ?_⟩ | refine ⟨HS.out, ?_⟩
    refine LeftL.one 36 rfl (by kernel_rfl) ?_
    go_wp2_with fail
    first | refine ⟨fun _ => HS.out, ?_⟩ | refine ⟨HS.out, ?_⟩
    refine LeftL.done (by kernel_rfl) ?_
    have hf := HF.out.call HS.out HF.out.size (by simp)
    clear HF HS HFX HLA HLB
    have HF := Lib.hid hf
    clear hf
    cases fo
    · have hnx := HNX.out (by rw [HSJ2.out]; simp [hne])
      have HNX2 := Lib.hid hnx
      clear hnx
      go_wp2_with fail
      exact ⟨⟨j + 1, by simp [y4, y5], HJL.out, HNX2.out, HF.out⟩, by have := HMS.out; simpa [intOf, y4, y5] using this⟩
    · have hr := HYES.out (by rw [HSJ2.out]; simp [ht])
      have HR := Lib.hid hr
      clear hr
      go_wp2_with fail
      go_ret
      exact ⟨by rw [HR.out]; rfl, HEND.out _ HF.out⟩
end Go.Proofs.Ythgmdilfmeefiaa
