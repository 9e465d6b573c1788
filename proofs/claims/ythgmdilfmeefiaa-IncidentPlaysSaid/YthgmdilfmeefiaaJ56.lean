/-
  The document: Prove.
-/
import Derived.Test.YthgmdilfmeefiaaJ58
namespace Go.Proofs.Ythgmdilfmeefiaa
set_option linter.all false
set_option linter.unusedSimpArgs false
set_option linter.unusedVariables false
open Go.RowKit

theorem info39z : (Try.prog.info? 39).map (fun i => (i.zero, i.size, i.bytes)) = some (some (.agg #[.int .i64 0, .int .i64 0, .int .i64 0, .string ⟨#[]⟩, .slice none 0 0, .int .i64 0]), 6, 72) := by kernel_rfl
/-- The memory behind a proof that was taken. -/
def RMem.proved (m : RMem) (n : Nat) (rb ro rc : Nat) (ad : Option Addr) (b o cap : Nat) : RMem :=
  { m with qa := some ⟨rb, ro, none⟩, qb := rb, qo := ro, qc := rc,
           xa := fun i => if i < n then m.xa i else ad, xb := fun i => if i < n then m.xb i else b, xo := fun i => if i < n then m.xo i else o, xc := fun i => if i < n then m.xc i else cap }
theorem RNext.proved {w w' : World} {s : BS} {m : RMem} (h : RefAt w s m) (hf : Frm w.heap.size [] w w') {p : Prf} {ad : Option Addr} {b o cap : Nat} (hr : RwP w ad b o p.wh.length p.wh) {n rb ro rc : Nat} (hn : n = s.prf.length)
    (hprf : Rw w' 6 (some ⟨rb, ro, none⟩) rb ro (n + 1) (fun i => if i < n then prfA (s.pf i) (m.xa i) (m.xc i) else prfA p ad cap))
    (hrb : w.heap.size ≤ rb) (hinv : BInv { s with prf := s.prf ++ [p] }) :
    RNext w w' s { s with prf := s.prf ++ [p] } m (m.proved n rb ro rc ad b o cap) (fun S => 0 < p.wh.length → b ∉ S) := by
  have h2 := h.still hf
  obtain ⟨s', hs'⟩ : ∃ z, z = ({ s with prf := s.prf ++ [p] } : BS) := ⟨_, rfl⟩
  have e1 : ∀ i, i < n → s'.pf i = s.pf i := fun i hi => by
    rw [hs']
    unfold BS.pf
    rw [List.getD_eq_getElem?_getD, List.getD_eq_getElem?_getD, List.getElem?_append_left (by omega)]
  have e2 : s'.pf n = p := by
    rw [hs', hn]
    unfold BS.pf
    simp [List.getD_eq_getElem?_getD]
  have el : s'.prf.length = n + 1 := by rw [hs', hn]; simp
  have er : s'.reps = s.reps := by rw [hs']
  have erp : ∀ i, s'.rp i = s.rp i := fun i => by rw [hs']; rfl
  have eo : ∀ i, s'.o i = s.o i := fun i => by rw [hs']; rfl
  have ep : s'.opn = s.opn := by rw [hs']
  rw [← hs'] at hinv ⊢
  refine ⟨⟨?_, ?_, ?_, ?_, ?_, ?_, hinv⟩, hf, fun S hS hX ha => ⟨?_, ?_, fun _ hm => ?_, ?_, ?_⟩⟩
  · rw [er]; exact h2.reps.congr fun i hi => by simp only [RMem.proved, erp]
  · intro i hi
    rw [er] at hi
    rw [erp]
    exact h2.wh i hi
  · rw [er]; exact h2.of.congr fun i hi => by simp only [eo]
  · rw [ep]; exact h2.opn
  · rw [el]
    refine hprf.congr fun i hi => ?_
    by_cases hin : i < n
    · simp only [RMem.proved, if_pos hin, e1 i hin]
    · obtain rfl : i = n := by omega
      simp only [RMem.proved, if_neg hin, e2]
  · intro i hi
    rw [el] at hi
    by_cases hin : i < n
    · simp only [RMem.proved, if_pos hin, e1 i hin]
      exact h2.xw i (by omega)
    · obtain rfl : i = n := by omega
      simp only [RMem.proved, if_neg hin, e2]
      exact hr.frm hf (Nat.le_refl _)
  · intro h0; rw [er] at h0; exact ha.reps h0
  · intro h0; rw [ep] at h0; exact ha.opn h0
  · have := hS _ hm; simp only [RMem.proved] at this; omega
  · intro i hi h0
    rw [er] at hi
    rw [erp] at h0
    exact ha.wh i hi h0
  · intro i hi h0
    rw [el] at hi
    by_cases hin : i < n
    · rw [e1 i hin] at h0
      simp only [RMem.proved, if_pos hin]
      exact ha.xw i (by omega) h0
    · obtain rfl : i = n := by omega
      rw [e2] at h0
      simp only [RMem.proved, if_neg hin]
      exact hX h0
theorem proved_refC {s : BS} {m : RMem} {p : Prf} {ad : Option Addr} {b o cap : Nat} {n rb ro rc : Nat} (hn : n = s.prf.length) :
    (refC s m).set 5 (.slice (some ⟨rb, ro, none⟩) (n + 1) rc) = refC { s with prf := s.prf ++ [p] } (m.proved n rb ro rc ad b o cap) := by
  subst hn
  simp [refC, RMem.proved]
set_option maxRecDepth 100000 in
set_option maxHeartbeats 16000000 in
theorem refProve_any {w : World} {s : BS} {m : RMem} (h : RefAt w s m) (p : Prf) (pad : Option Addr) (b o pcap : Nat) (hp : RwP w pad b o p.wh.length p.wh) :
    Calls Try.prog 42 #[.agg (refC s m).toArray, .agg (prfA p pad pcap).toArray] w fun e w' => ∃ m', e = .returned (.tuple #[.agg (refC (proveS s p).1 m').toArray, .int .i64 (proveS s p).2]) ∧ RNext w w' s (proveS s p).1 m m' (fun S => 0 < p.wh.length → b ∉ S) := by
  have hf0 := Try.func42
  obtain ⟨i39, hi39, hy0, hy1, hy2⟩ := info_parts3 info39z
  obtain ⟨n, hn⟩ : ∃ n, n = s.reps.length := ⟨_, rfl⟩
  have hnm : n ≤ 500 := by rw [hn]; exact h.inv.max.1
  obtain ⟨M, hM⟩ : ∃ n, n = s.prf.length := ⟨_, rfl⟩
  have hMm : M ≤ 500 := by rw [hM]; exact h.inv.max.2
  have hm1 : IntKind.i64.wrap ((n : Int) - 1) = (n : Int) - 1 := IntWalk.i64_in _ (by omega)
  have hm2 : wrap64 ((n : Int) - 1) = (n : Int) - 1 := IntWalk.wrap64_in _ (by omega)
  obtain ⟨C, hC⟩ : ∃ C, C = refC s m := ⟨_, rfl⟩
  have hz6 : C.length = 6 := by rw [hC]; rfl
  have hc1 : ∀ u ∈ C, u.oneCell' = true := by rw [hC]; exact refC_one s m
  have hc2 : C[2]? = some (.slice m.ra n m.rc) := by rw [hC, hn]; rfl
  have hc5 : C[5]? = some (.slice m.qa M m.qc) := by rw [hC, hM]; rfl
  obtain ⟨P, hP⟩ : ∃ E, E = prfA p pad pcap := ⟨_, rfl⟩
  have hp6 : P.length = 6 := by rw [hP]; rfl
  have hp1 : ∀ u ∈ P, u.oneCell' = true := by rw [hP]; simp [prfA, Value.oneCell']
  obtain ⟨res, hres⟩ : ∃ c, c = proveS s p := ⟨_, rfl⟩
  obtain ⟨kind, rep, time, by_, wh, count⟩ := p
  have g0 : P[0]? = some (.int .i64 kind) := by rw [hP]; rfl
  have g1 : P[1]? = some (.int .i64 rep) := by rw [hP]; rfl
  have g2 : P[2]? = some (.int .i64 time) := by rw [hP]; rfl
  have g3 : P[3]? = some (.string by_) := by rw [hP]; rfl
  have g4 : P[4]? = some (.slice pad wh.length pcap) := by rw [hP]; rfl
  have g5 : P[5]? = some (.int .i64 count) := by rw [hP]; rfl
  rw [← hres]
  rw [← hC, ← hP]
  obtain ⟨v, hv⟩ : ∃ v, v = inB rep 0 ((n : Int) - 1) := ⟨_, rfl⟩
  have h41 : ∀ V, Calls Try.prog 41 #[.int .i64 rep, .int .i64 0, .int .i64 ((n : Int) - 1)] V fun e w' => e = .returned (.bool v) ∧ V = w' := fun V => by rw [hv]; exact refIn_any _ _ _ V
  dsimp only at hp
  have HH := Lib.hid h
  have HP := Lib.hid hp
  have HN := Lib.hid hn
  have HNM := Lib.hid hnm
  have HM := Lib.hid hM
  have HMM := Lib.hid hMm
  have HC := Lib.hid hC
  have HZ6 := Lib.hid hz6
  have HC1 := Lib.hid hc1
  have HC2 := Lib.hid hc2
  have HC5 := Lib.hid hc5
  have HPP := Lib.hid hP
  have HP6 := Lib.hid hp6
  have HP1 := Lib.hid hp1
  have HRES := Lib.hid hres
  have G0 := Lib.hid g0
  have G1 := Lib.hid g1
  have G2 := Lib.hid g2
  have G3 := Lib.hid g3
  have G4 := Lib.hid g4
  have G5 := Lib.hid g5
  have HV := Lib.hid hv
  have H41 := Lib.hid h41
  have HI39 := Lib.hid hi39
  have HY0 := Lib.hid hy0
  have HY1 := Lib.hid hy1
  have HY2 := Lib.hid hy2
  clear hy2 hy1 hy0 hi39 h41 hv g5 g4 g3 g2 g1 g0 hres hp1 hp6 hP hc5 hc2 hc1 hz6 hC hMm hM hnm hn hp h
  go_enter Try.func42, Try.ntmps42
  go_upto_region 1 with fail
  refine namedC ?_; intro W hW
  have k2 : Blk W w.heap.size 55 C := by rw [hW]; refine Blk.alloc' ?_; refine Blk.alloc' ?_; exact Blk.new w 55 C
  have k3 : Blk W (w.heap.size + 1) 39 P := by rw [hW]; refine Blk.alloc' ?_; exact Blk.new' _ 39 P (by simp)
  have k4 : Blk W (w.heap.size + 2) 55 zero55 := by rw [hW]; exact Blk.new' _ 55 zero55 (by simp)
  have hf : Frm w.heap.size [] w W := by rw [hW]; repeat (first | with_reducible exact Frm.refl _ _ _ | with_reducible refine Frm.drewN ?_ | with_reducible refine Frm.drew ?_ | ((with_reducible refine Frm.setCell' ?_ ?_); · first | (left; simp; done) | (right; simp; done) | (right; simp; omega)) | ((with_reducible refine Frm.alloc' ?_ ?_); · first | exact Nat.le_refl _ | (simp; done) | (simp; omega)))
  clear hW hf0
  have c1 : W.cell? ⟨w.heap.size + 1, 1, none⟩ = some (.int .i64 rep) := (k3.cell 1).trans G1.out
  have c2 : W.cell? ⟨w.heap.size, 2, none⟩ = some (.slice m.ra n m.rc) := (k2.cell 2).trans HC2.out
  have HF := Lib.hid hf
  have K2 := Lib.hid k2
  have K3 := Lib.hid k3
  have K4 := Lib.hid k4
  clear k4 k3 k2 hf
  cases v
  · have ht : res = (s, 7) := by rw [HRES.out]; unfold proveS; rw [if_pos (by rw [← HN.out]; exact HV.out.symm)]
    subst ht
    go_wp2_with (first | (go_at_call 41; (try simp only [hm1, hm2]); refine (H41.out W).mono ?_; rintro e w1 ⟨rfl, rfl⟩) | (with_reducible refine atLoad 55 rfl ?_; refine wpList_loadE rfl rfl rfl (load55 K2.out HZ6.out) ?_) | (with_reducible refine atStore 55 rfl ?_; refine stop_ ?_))
    refine go_on ?_
    clear c1 c2 H41 hm1 hm2
    refine wpList_storeB (P := Try.prog) (cs := C) rfl rfl K4.out rfl rfl (by rw [HZ6.out]; rfl) (by rw [HZ6.out]; exact info55) HC1.out ?_
    have k4 := K4.out.row C
    have hf := HF.out.setRow (g := w.heap.size + 2) (.inr (by omega)) C.toArray
    generalize World.setRow W _ _ = w9 at k4 hf ⊢
    clear HF K4 K2 K3
    dsimp only [Act.put]
    have hi6 : (Try.prog.info? 55).map (fun i => i.size) = some C.length := by rw [HZ6.out]; exact info55
    have HF := Lib.hid hf
    have K4 := Lib.hid k4
    have HI6 := Lib.hid hi6
    clear hi6 k4 hf
    go_wp2_with fail
    refine bodyPost_ret (results_ct Try.results42 K4.out rfl Try.underlying55 rfl HI6.out) rfl ?_
    rw [HC.out]
    exact ⟨m, rfl, RNext.stay HH.out HF.out⟩
  have hin := HV.out
  obtain ⟨x, hx, hxn⟩ : ∃ x : Nat, rep = (x : Int) ∧ x < n := by
    have h1 := hin.symm
    unfold inB at h1
    simp only [Bool.and_eq_true, decide_eq_true_eq] at h1
    exact ⟨rep.toNat, by omega, by omega⟩
  subst hx
  have hx' : (x : Int) < (n : Int) := by omega
  have had := HH.out.reps.ad (by have := HN.out; omega)
  obtain ⟨r, hr⟩ : ∃ r, r = s.rp x := ⟨_, rfl⟩
  obtain ⟨R, hR⟩ : ∃ R, R = repC r (m.wa x) (m.wc x) := ⟨_, rfl⟩
  have r7 : R.length = 7 := by rw [hR]; rfl
  have r1 : ∀ u ∈ R, u.oneCell' = true := by rw [hR]; simp [repC, Value.oneCell']
  have hl24 : ∀ V, Frm w.heap.size [] w V → (loadVar 24 ⟨m.rb, m.ro + x * 7, none⟩).run Try.prog V = .ok (.agg R.toArray) V := fun V hV => by
    rw [hR, hr]
    exact (HH.out.still hV).reps.load (P := Try.prog) Try.underlying24 rfl (by have := HN.out; omega) info24
  have q1 : R[1]? = some (.int .i64 r.time) := by rw [hR]; rfl
  have hok : repB r = true := by rw [hr]; exact HH.out.inv.rok (by have := HN.out; omega)
  have hrw : RwP w (m.wa x) (m.wb x) (m.wo x) r.wh.length r.wh := by rw [hr]; exact HH.out.wh x (by have := HN.out; omega)
  obtain ⟨fit, hfit⟩ : ∃ f, f = fitsB s ⟨kind, (x : Int), time, by_, wh, count⟩ r := ⟨_, rfl⟩
  have h69 : rightB ⟨kind, (x : Int), time, by_, wh, count⟩ r = true → ∀ V, Frm w.heap.size [] w V → Calls Try.prog 69 #[.agg C.toArray, .agg P.toArray, .agg R.toArray] V fun e w' => e = .returned (.bool fit) ∧ Frm V.heap.size [] V w' := fun hright V hV => by
    rw [HC.out, HPP.out, hR, hfit]
    exact refFits_any s m ⟨kind, (x : Int), time, by_, wh, count⟩ pad b o pcap r (m.wa x) (m.wb x) (m.wo x) (m.wc x) V (HP.out.frm hV (Nat.le_refl _)) (hrw.frm hV (Nat.le_refl _)) hok hright
  have hrp : s.rp (Int.toNat (x : Int)) = r := by rw [Int.toNat_natCast, hr]
  have hbad : (rightB ⟨kind, (x : Int), time, by_, wh, count⟩ r && (decide (kind = 1) || decide (count = 0)) && fit) = false → res = (s, 2) := fun h => by
    rw [HRES.out]; unfold proveS
    rw [if_neg (by rw [← HN.out, ← hin]; simp), if_pos (by dsimp only; rw [hrp, ← hfit]; exact h)]
  have hgood : (rightB ⟨kind, (x : Int), time, by_, wh, count⟩ r && (decide (kind = 1) || decide (count = 0)) && fit) = true → res = if M = 500 then (s, 6) else ({ s with prf := s.prf ++ [⟨kind, (x : Int), time, by_, wh, count⟩] }, 0) := fun h => by
    rw [HRES.out]; unfold proveS
    rw [if_neg (by rw [← HN.out, ← hin]; simp), if_neg (by dsimp only; rw [hrp, ← hfit, h]; simp), HM.out]
  have hrt : rightB ⟨kind, (x : Int), time, by_, wh, count⟩ r = (inB kind 1 5 && inB time 0 1073741824 && decide (r.time ≤ time) && nameB by_ && areaB wh && inB count 0 10000) := rfl
  obtain ⟨rt, hrtm⟩ : ∃ c, c = r.time := ⟨_, rfl⟩
  obtain ⟨rgt, hrgt⟩ : ∃ c, c = rightB ⟨kind, (x : Int), time, by_, wh, count⟩ r := ⟨_, rfl⟩
  rw [← hrgt] at hrt hbad hgood h69
  rw [← hrtm] at hrt q1
  obtain ⟨a1, ha1⟩ : ∃ c, c = inB kind 1 5 := ⟨_, rfl⟩
  obtain ⟨a2, ha2⟩ : ∃ c, c = inB time 0 1073741824 := ⟨_, rfl⟩
  obtain ⟨a4, ha4⟩ : ∃ c, c = nameB by_ := ⟨_, rfl⟩
  obtain ⟨a5, ha5⟩ : ∃ c, c = areaB wh := ⟨_, rfl⟩
  obtain ⟨a6, ha6⟩ : ∃ c, c = inB count 0 10000 := ⟨_, rfl⟩
  have c1k : ∀ V, Calls Try.prog 41 #[.int .i64 kind, .int .i64 1, .int .i64 5] V fun e w' => e = .returned (.bool a1) ∧ V = w' := fun V => by rw [ha1]; exact refIn_any _ _ _ V
  have c2k : ∀ V, Calls Try.prog 59 #[.int .i64 time] V fun e w' => e = .returned (.bool a2) ∧ V = w' := fun V => by rw [ha2]; exact refTime_any _ V
  have c4k : ∀ V, Calls Try.prog 58 #[.string by_] V fun e w' => e = .returned (.bool a4) ∧ Frm V.heap.size [] V w' := fun V => by rw [ha4]; exact refName_any _ V
  have c5k : ∀ V, Frm w.heap.size [] w V → Calls Try.prog 60 #[.slice pad wh.length pcap] V fun e w' => e = .returned (.bool a5) ∧ Frm V.heap.size [] V w' := fun V hV => by rw [ha5]; exact refArea_any pad b o wh.length pcap wh rfl V (HP.out.frm hV (Nat.le_refl _))
  have c6k : ∀ V, Calls Try.prog 41 #[.int .i64 count, .int .i64 0, .int .i64 10000] V fun e w' => e = .returned (.bool a6) ∧ V = w' := fun V => by rw [ha6]; exact refIn_any _ _ _ V
  rw [← ha1, ← ha2, ← ha4, ← ha5, ← ha6] at hrt
  rw [had] at c2
  have c4 : ∀ n : Nat, n = wh.length → W.cell? ⟨w.heap.size + 1, 4, none⟩ = some (.slice pad n pcap) := fun n hn => by rw [hn]; exact (K3.out.cell 4).trans G4.out
  obtain ⟨wl, hwl⟩ : ∃ c, c = wh.length := ⟨_, rfl⟩
  rw [← hwl] at c5k
  have g4 := G4.out
  rw [← hwl] at g4
  clear hr hrp hok hrw hfit hrtm hrgt ha1 ha2 ha4 ha5 ha6 hin had hwl c4 G4
  have HR := Lib.hid hR
  have R7 := Lib.hid r7
  have R1 := Lib.hid r1
  have HL24 := Lib.hid hl24
  have Q1 := Lib.hid q1
  have H69 := Lib.hid h69
  have HBAD := Lib.hid hbad
  have HGOOD := Lib.hid hgood
  have HRT := Lib.hid hrt
  have C1K := Lib.hid c1k
  have C2K := Lib.hid c2k
  have C4K := Lib.hid c4k
  have C5K := Lib.hid c5k
  have C6K := Lib.hid c6k
  have HXN := Lib.hid hxn
  have G4 := Lib.hid g4
  clear g4 hxn c6k c5k c4k c2k c1k hrt hgood hbad h69 q1 hl24 r1 r7 hR
  go_wp2_with (first | (go_at_call 41; (try simp only [hm1, hm2]); refine (H41.out W).mono ?_; rintro e w1 ⟨rfl, rfl⟩) | (with_reducible refine atLoad 24 rfl ?_; refine wpList_loadE rfl rfl rfl (HL24.out _ HF.out) ?_) | (with_reducible refine atStore 24 rfl ?_; refine stop_ ?_))
  refine go_on ?_
  refine wpList_storeNew (P := Try.prog) (cs := R) rfl rfl rfl rfl (by rw [R7.out]; rfl) (by rw [R7.out]; exact info24) R1.out ?_
  intro w1 hf1 k6 hz; clear hz
  dsimp only [Act.put]
  clear c1 c2 hx' H41 hm1 hm2
  obtain ⟨p6, hp6⟩ : ∃ p, p = W.heap.size := ⟨_, rfl⟩
  rw [← hp6] at k6 ⊢
  have h6l : w.heap.size + 2 < p6 := by rw [hp6]; exact K4.out.lt
  have k2 := hf1.blk K2.out K2.out.lt (by simp)
  have k3 := hf1.blk K3.out K3.out.lt (by simp)
  have k4 := hf1.blk K4.out K4.out.lt (by simp)
  have hf := HF.out.call hf1 HF.out.size (by simp)
  clear hf1 HF K2 K3 K4 HL24 hp6
  have HF := Lib.hid hf
  have K2 := Lib.hid k2
  have K3 := Lib.hid k3
  have K4 := Lib.hid k4
  have K6 := Lib.hid k6
  have H6L := Lib.hid h6l
  clear h6l k6 k4 k3 k2 hf
  have c0 : w1.cell? ⟨w.heap.size + 1, 0, none⟩ = some (.int .i64 kind) := (K3.out.cell 0).trans G0.out
  have c2 : w1.cell? ⟨w.heap.size + 1, 2, none⟩ = some (.int .i64 time) := (K3.out.cell 2).trans G2.out
  have c3 : w1.cell? ⟨w.heap.size + 1, 3, none⟩ = some (.string by_) := (K3.out.cell 3).trans G3.out
  have c4 : w1.cell? ⟨w.heap.size + 1, 4, none⟩ = some (.slice pad wl pcap) := (K3.out.cell 4).trans G4.out
  have c5 : w1.cell? ⟨w.heap.size + 1, 5, none⟩ = some (.int .i64 count) := (K3.out.cell 5).trans G5.out
  have d1 : w1.cell? ⟨p6, 1, none⟩ = some (.int .i64 rt) := (K6.out.cell 1).trans Q1.out
  go_wp2_with fail
  refine (C1K.out w1).mono ?_; rintro e w2 ⟨rfl, rfl⟩
  cases a1
  · have hc : res = (s, 2) := HBAD.out (by rw [HRT.out]; simp)
    subst hc
    clear HBAD HGOOD H69
    go_wp2_with (first | (with_reducible refine atLoad 55 rfl ?_; refine wpList_loadE rfl rfl rfl (load55 K2.out HZ6.out) ?_) | (with_reducible refine atStore 55 rfl ?_; refine stop_ ?_))
    refine go_on ?_
    clear K6
    refine wpList_storeB (P := Try.prog) (cs := C) rfl rfl K4.out rfl rfl (by rw [HZ6.out]; rfl) (by rw [HZ6.out]; exact info55) HC1.out ?_
    have k4 := K4.out.row C
    have hf := HF.out.setRow (g := w.heap.size + 2) (.inr (by omega)) C.toArray
    generalize World.setRow w1 _ _ = w9 at k4 hf ⊢
    clear HF K4 K2 K3
    dsimp only [Act.put]
    have hi6 : (Try.prog.info? 55).map (fun i => i.size) = some C.length := by rw [HZ6.out]; exact info55
    have HF := Lib.hid hf
    have K4 := Lib.hid k4
    have HI6 := Lib.hid hi6
    clear hi6 k4 hf
    go_wp2_with fail
    refine bodyPost_ret (results_ct Try.results42 K4.out rfl Try.underlying55 rfl HI6.out) rfl ?_
    rw [HC.out]
    exact ⟨m, rfl, RNext.stay HH.out HF.out⟩
  go_wp2_with fail
  refine (C2K.out w1).mono ?_; rintro e w2 ⟨rfl, rfl⟩
  cases a2
  · have hc : res = (s, 2) := HBAD.out (by rw [HRT.out]; simp)
    subst hc
    clear HBAD HGOOD H69
    go_wp2_with (first | (with_reducible refine atLoad 55 rfl ?_; refine wpList_loadE rfl rfl rfl (load55 K2.out HZ6.out) ?_) | (with_reducible refine atStore 55 rfl ?_; refine stop_ ?_))
    refine go_on ?_
    clear K6
    refine wpList_storeB (P := Try.prog) (cs := C) rfl rfl K4.out rfl rfl (by rw [HZ6.out]; rfl) (by rw [HZ6.out]; exact info55) HC1.out ?_
    have k4 := K4.out.row C
    have hf := HF.out.setRow (g := w.heap.size + 2) (.inr (by omega)) C.toArray
    generalize World.setRow w1 _ _ = w9 at k4 hf ⊢
    clear HF K4 K2 K3
    dsimp only [Act.put]
    have hi6 : (Try.prog.info? 55).map (fun i => i.size) = some C.length := by rw [HZ6.out]; exact info55
    have HF := Lib.hid hf
    have K4 := Lib.hid k4
    have HI6 := Lib.hid hi6
    clear hi6 k4 hf
    go_wp2_with fail
    refine bodyPost_ret (results_ct Try.results42 K4.out rfl Try.underlying55 rfl HI6.out) rfl ?_
    rw [HC.out]
    exact ⟨m, rfl, RNext.stay HH.out HF.out⟩
  by_cases h3 : rt ≤ time
  rotate_left
  · have h3b : time < rt := by omega
    have hc : res = (s, 2) := HBAD.out (by rw [HRT.out]; simp [h3])
    subst hc
    clear HBAD HGOOD H69
    go_wp2_with (first | (with_reducible refine atLoad 55 rfl ?_; refine wpList_loadE rfl rfl rfl (load55 K2.out HZ6.out) ?_) | (with_reducible refine atStore 55 rfl ?_; refine stop_ ?_))
    refine go_on ?_
    clear K6
    refine wpList_storeB (P := Try.prog) (cs := C) rfl rfl K4.out rfl rfl (by rw [HZ6.out]; rfl) (by rw [HZ6.out]; exact info55) HC1.out ?_
    have k4 := K4.out.row C
    have hf := HF.out.setRow (g := w.heap.size + 2) (.inr (by omega)) C.toArray
    generalize World.setRow w1 _ _ = w9 at k4 hf ⊢
    clear HF K4 K2 K3
    dsimp only [Act.put]
    have hi6 : (Try.prog.info? 55).map (fun i => i.size) = some C.length := by rw [HZ6.out]; exact info55
    have HF := Lib.hid hf
    have K4 := Lib.hid k4
    have HI6 := Lib.hid hi6
    clear hi6 k4 hf
    go_wp2_with fail
    refine bodyPost_ret (results_ct Try.results42 K4.out rfl Try.underlying55 rfl HI6.out) rfl ?_
    rw [HC.out]
    exact ⟨m, rfl, RNext.stay HH.out HF.out⟩
  have h3b : ¬ time < rt := by omega
  have h3c : decide (time < rt) = false := by simp; omega
  go_wp2_with fail
  refine (C4K.out w1).mono ?_; rintro e w2 ⟨rfl, hf1⟩
  have k2 := hf1.blk K2.out K2.out.lt (by simp)
  have k3 := hf1.blk K3.out K3.out.lt (by simp)
  have k4 := hf1.blk K4.out K4.out.lt (by simp)
  have k6 := hf1.blk K6.out K6.out.lt (by simp)
  have hf := HF.out.call hf1 HF.out.size (by simp)
  clear hf1 HF K2 K3 K4 K6
  have HF := Lib.hid hf
  have K2 := Lib.hid k2
  have K3 := Lib.hid k3
  have K4 := Lib.hid k4
  have K6 := Lib.hid k6
  clear k6 k4 k3 k2 hf
  cases a4
  · have hc : res = (s, 2) := HBAD.out (by rw [HRT.out]; simp)
    subst hc
    clear HBAD HGOOD H69
    go_wp2_with (first | (with_reducible refine atLoad 55 rfl ?_; refine wpList_loadE rfl rfl rfl (load55 K2.out HZ6.out) ?_) | (with_reducible refine atStore 55 rfl ?_; refine stop_ ?_))
    refine go_on ?_
    clear K6
    refine wpList_storeB (P := Try.prog) (cs := C) rfl rfl K4.out rfl rfl (by rw [HZ6.out]; rfl) (by rw [HZ6.out]; exact info55) HC1.out ?_
    have k4 := K4.out.row C
    have hf := HF.out.setRow (g := w.heap.size + 2) (.inr (by omega)) C.toArray
    generalize World.setRow w2 _ _ = w9 at k4 hf ⊢
    clear HF K4 K2 K3
    dsimp only [Act.put]
    have hi6 : (Try.prog.info? 55).map (fun i => i.size) = some C.length := by rw [HZ6.out]; exact info55
    have HF := Lib.hid hf
    have K4 := Lib.hid k4
    have HI6 := Lib.hid hi6
    clear hi6 k4 hf
    go_wp2_with fail
    refine bodyPost_ret (results_ct Try.results42 K4.out rfl Try.underlying55 rfl HI6.out) rfl ?_
    rw [HC.out]
    exact ⟨m, rfl, RNext.stay HH.out HF.out⟩
  have c0 : w2.cell? ⟨w.heap.size + 1, 0, none⟩ = some (.int .i64 kind) := (K3.out.cell 0).trans G0.out
  have c2 : w2.cell? ⟨w.heap.size + 1, 2, none⟩ = some (.int .i64 time) := (K3.out.cell 2).trans G2.out
  have c3 : w2.cell? ⟨w.heap.size + 1, 3, none⟩ = some (.string by_) := (K3.out.cell 3).trans G3.out
  have c4 : w2.cell? ⟨w.heap.size + 1, 4, none⟩ = some (.slice pad wl pcap) := (K3.out.cell 4).trans G4.out
  have c5 : w2.cell? ⟨w.heap.size + 1, 5, none⟩ = some (.int .i64 count) := (K3.out.cell 5).trans G5.out
  have d1 : w2.cell? ⟨p6, 1, none⟩ = some (.int .i64 rt) := (K6.out.cell 1).trans Q1.out
  go_wp2_with fail
  refine (C5K.out w2 HF.out).mono ?_; rintro e w3 ⟨rfl, hf1⟩
  clear c0 c2 c3 c4 c5 d1
  have k2 := hf1.blk K2.out K2.out.lt (by simp)
  have k3 := hf1.blk K3.out K3.out.lt (by simp)
  have k4 := hf1.blk K4.out K4.out.lt (by simp)
  have k6 := hf1.blk K6.out K6.out.lt (by simp)
  have hf := HF.out.call hf1 HF.out.size (by simp)
  clear hf1 HF K2 K3 K4 K6
  have HF := Lib.hid hf
  have K2 := Lib.hid k2
  have K3 := Lib.hid k3
  have K4 := Lib.hid k4
  have K6 := Lib.hid k6
  clear k6 k4 k3 k2 hf
  cases a5
  · have hc : res = (s, 2) := HBAD.out (by rw [HRT.out]; simp)
    subst hc
    clear HBAD HGOOD H69
    go_wp2_with (first | (with_reducible refine atLoad 55 rfl ?_; refine wpList_loadE rfl rfl rfl (load55 K2.out HZ6.out) ?_) | (with_reducible refine atStore 55 rfl ?_; refine stop_ ?_))
    refine go_on ?_
    clear K6
    refine wpList_storeB (P := Try.prog) (cs := C) rfl rfl K4.out rfl rfl (by rw [HZ6.out]; rfl) (by rw [HZ6.out]; exact info55) HC1.out ?_
    have k4 := K4.out.row C
    have hf := HF.out.setRow (g := w.heap.size + 2) (.inr (by omega)) C.toArray
    generalize World.setRow w3 _ _ = w9 at k4 hf ⊢
    clear HF K4 K2 K3
    dsimp only [Act.put]
    have hi6 : (Try.prog.info? 55).map (fun i => i.size) = some C.length := by rw [HZ6.out]; exact info55
    have HF := Lib.hid hf
    have K4 := Lib.hid k4
    have HI6 := Lib.hid hi6
    clear hi6 k4 hf
    go_wp2_with fail
    refine bodyPost_ret (results_ct Try.results42 K4.out rfl Try.underlying55 rfl HI6.out) rfl ?_
    rw [HC.out]
    exact ⟨m, rfl, RNext.stay HH.out HF.out⟩
  have c0 : w3.cell? ⟨w.heap.size + 1, 0, none⟩ = some (.int .i64 kind) := (K3.out.cell 0).trans G0.out
  have c2 : w3.cell? ⟨w.heap.size + 1, 2, none⟩ = some (.int .i64 time) := (K3.out.cell 2).trans G2.out
  have c3 : w3.cell? ⟨w.heap.size + 1, 3, none⟩ = some (.string by_) := (K3.out.cell 3).trans G3.out
  have c4 : w3.cell? ⟨w.heap.size + 1, 4, none⟩ = some (.slice pad wl pcap) := (K3.out.cell 4).trans G4.out
  have c5 : w3.cell? ⟨w.heap.size + 1, 5, none⟩ = some (.int .i64 count) := (K3.out.cell 5).trans G5.out
  have d1 : w3.cell? ⟨p6, 1, none⟩ = some (.int .i64 rt) := (K6.out.cell 1).trans Q1.out
  go_wp2_with fail
  refine (C6K.out w3).mono ?_; rintro e w4 ⟨rfl, rfl⟩
  cases a6
  · have hc : res = (s, 2) := HBAD.out (by rw [HRT.out]; simp)
    subst hc
    clear HBAD HGOOD H69
    go_wp2_with (first | (with_reducible refine atLoad 55 rfl ?_; refine wpList_loadE rfl rfl rfl (load55 K2.out HZ6.out) ?_) | (with_reducible refine atStore 55 rfl ?_; refine stop_ ?_))
    refine go_on ?_
    clear K6
    refine wpList_storeB (P := Try.prog) (cs := C) rfl rfl K4.out rfl rfl (by rw [HZ6.out]; rfl) (by rw [HZ6.out]; exact info55) HC1.out ?_
    have k4 := K4.out.row C
    have hf := HF.out.setRow (g := w.heap.size + 2) (.inr (by omega)) C.toArray
    generalize World.setRow w3 _ _ = w9 at k4 hf ⊢
    clear HF K4 K2 K3
    dsimp only [Act.put]
    have hi6 : (Try.prog.info? 55).map (fun i => i.size) = some C.length := by rw [HZ6.out]; exact info55
    have HF := Lib.hid hf
    have K4 := Lib.hid k4
    have HI6 := Lib.hid hi6
    clear hi6 k4 hf
    go_wp2_with fail
    refine bodyPost_ret (results_ct Try.results42 K4.out rfl Try.underlying55 rfl HI6.out) rfl ?_
    rw [HC.out]
    exact ⟨m, rfl, RNext.stay HH.out HF.out⟩
  have hk : kind = 1 ∨ (kind ≠ 1 ∧ count = 0) ∨ (kind ≠ 1 ∧ count ≠ 0) := by omega
  have hrgt : rgt = true := by rw [HRT.out]; simp [h3]
  have h69 := H69.out hrgt
  clear H69 HRT C1K C2K C4K C5K C6K
  have H69 := Lib.hid h69
  have HRG := Lib.hid hrgt
  clear hrgt h69
  rcases hk with h1 | ⟨h1, h0⟩ | ⟨h1, h0⟩
  rotate_left 2
  · have h1b : (kind == 1) = false := by simp [h1]
    have h0b : (count == 0) = false := by simp [h0]
    have hc : res = (s, 2) := HBAD.out (by simp [h1, h0])
    subst hc
    clear HBAD HGOOD H69
    go_wp2_with (first | (with_reducible refine atLoad 55 rfl ?_; refine wpList_loadE rfl rfl rfl (load55 K2.out HZ6.out) ?_) | (with_reducible refine atStore 55 rfl ?_; refine stop_ ?_))
    refine go_on ?_
    clear K6
    refine wpList_storeB (P := Try.prog) (cs := C) rfl rfl K4.out rfl rfl (by rw [HZ6.out]; rfl) (by rw [HZ6.out]; exact info55) HC1.out ?_
    have k4 := K4.out.row C
    have hf := HF.out.setRow (g := w.heap.size + 2) (.inr (by omega)) C.toArray
    generalize World.setRow w3 _ _ = w9 at k4 hf ⊢
    clear HF K4 K2 K3
    dsimp only [Act.put]
    have hi6 : (Try.prog.info? 55).map (fun i => i.size) = some C.length := by rw [HZ6.out]; exact info55
    have HF := Lib.hid hf
    have K4 := Lib.hid k4
    have HI6 := Lib.hid hi6
    clear hi6 k4 hf
    go_wp2_with fail
    refine bodyPost_ret (results_ct Try.results42 K4.out rfl Try.underlying55 rfl HI6.out) rfl ?_
    rw [HC.out]
    exact ⟨m, rfl, RNext.stay HH.out HF.out⟩
  · have h2 : (rgt && (decide (kind = 1) || decide (count = 0))) = true := by rw [HRG.out]; simp [h1]
    subst h1
    have H2 := Lib.hid h2
    clear h2
    go_wp2_with (first | (with_reducible refine atLoad 55 rfl ?_; refine wpList_loadGE rfl rfl rfl (load55 K2.out HZ6.out) ?_) | (with_reducible refine atLoad 39 rfl ?_; refine wpList_loadGE rfl rfl rfl (load39 K3.out HP6.out) ?_) | (with_reducible refine atLoad 24 rfl ?_; refine wpList_loadGE rfl rfl rfl (load24 K6.out R7.out) ?_))
    refine (H69.out w3 HF.out).mono ?_; rintro e w4 ⟨rfl, hf1⟩
    clear c0 c2 c3 c4 c5 d1 H69 HRG
    have k2 := hf1.blk K2.out K2.out.lt (by simp)
    have k3 := hf1.blk K3.out K3.out.lt (by simp)
    have k4 := hf1.blk K4.out K4.out.lt (by simp)
    have k6 := hf1.blk K6.out K6.out.lt (by simp)
    have hf := HF.out.call hf1 HF.out.size (by simp)
    clear hf1 HF K2 K3 K4 K6
    have HF := Lib.hid hf
    have K2 := Lib.hid k2
    have K3 := Lib.hid k3
    have K4 := Lib.hid k4
    have K6 := Lib.hid k6
    clear k6 k4 k3 k2 hf
    cases fit
    · have hc : res = (s, 2) := HBAD.out (by simp)
      clear H2
      subst hc
      clear HBAD HGOOD
      go_wp2_with (first | (with_reducible refine atLoad 55 rfl ?_; refine wpList_loadE rfl rfl rfl (load55 K2.out HZ6.out) ?_) | (with_reducible refine atStore 55 rfl ?_; refine stop_ ?_))
      refine go_on ?_
      clear K6
      refine wpList_storeB (P := Try.prog) (cs := C) rfl rfl K4.out rfl rfl (by rw [HZ6.out]; rfl) (by rw [HZ6.out]; exact info55) HC1.out ?_
      have k4 := K4.out.row C
      have hf := HF.out.setRow (g := w.heap.size + 2) (.inr (by omega)) C.toArray
      generalize World.setRow w4 _ _ = w9 at k4 hf ⊢
      clear HF K4 K2 K3
      dsimp only [Act.put]
      have hi6 : (Try.prog.info? 55).map (fun i => i.size) = some C.length := by rw [HZ6.out]; exact info55
      have HF := Lib.hid hf
      have K4 := Lib.hid k4
      have HI6 := Lib.hid hi6
      clear hi6 k4 hf
      go_wp2_with fail
      refine bodyPost_ret (results_ct Try.results42 K4.out rfl Try.underlying55 rfl HI6.out) rfl ?_
      rw [HC.out]
      exact ⟨m, rfl, RNext.stay HH.out HF.out⟩
    have hgood := HGOOD.out (by rw [H2.out]; rfl)
    clear HBAD HGOOD H2 K6 H6L Q1
    have c5 : w4.cell? ⟨w.heap.size, 5, none⟩ = some (.slice m.qa M m.qc) := (K2.out.cell 5).trans HC5.out
    by_cases h5 : M = 500
    · rw [if_pos h5] at hgood
      subst hgood
      subst h5
      go_wp2_with (first | (with_reducible refine atLoad 55 rfl ?_; refine wpList_loadE rfl rfl rfl (load55 K2.out HZ6.out) ?_) | (with_reducible refine atStore 55 rfl ?_; refine stop_ ?_))
      refine go_on ?_
      clear c5
      refine wpList_storeB (P := Try.prog) (cs := C) rfl rfl K4.out rfl rfl (by rw [HZ6.out]; rfl) (by rw [HZ6.out]; exact info55) HC1.out ?_
      have k4 := K4.out.row C
      have hf := HF.out.setRow (g := w.heap.size + 2) (.inr (by omega)) C.toArray
      generalize World.setRow w4 _ _ = w9 at k4 hf ⊢
      clear HF K4 K2 K3
      dsimp only [Act.put]
      have hi6 : (Try.prog.info? 55).map (fun i => i.size) = some C.length := by rw [HZ6.out]; exact info55
      have HF := Lib.hid hf
      have K4 := Lib.hid k4
      have HI6 := Lib.hid hi6
      clear hi6 k4 hf
      go_wp2_with fail
      refine bodyPost_ret (results_ct Try.results42 K4.out rfl Try.underlying55 rfl HI6.out) rfl ?_
      rw [HC.out]
      exact ⟨m, rfl, RNext.stay HH.out HF.out⟩
    rw [if_neg h5] at hgood
    have h5b : ((M : Int) == 500) = false := by simp; omega
    have h5c : ¬ (M : Int) = 500 := by omega
    subst hgood
    have hinv : BInv { s with prf := s.prf ++ [⟨1, (x : Int), time, by_, wh, count⟩] } := by
      have h1 := prove_inv HH.out.inv ⟨1, (x : Int), time, by_, wh, count⟩
      rw [← HRES.out] at h1
      exact h1
    have HINV := Lib.hid hinv
    clear hinv
    go_upto_region 8 with fail
    clear c5 h5b h5c
    obtain ⟨f, hff⟩ : ∃ f : Nat → List Value, f = fun i => prfA (s.pf i) (m.xa i) (m.xc i) := ⟨_, rfl⟩
    have hrr : ∀ V, Frm w.heap.size [] w V → Rw V 6 m.qa m.qb m.qo M f := fun V hV => by rw [hff, HM.out]; exact (HH.out.still hV).prf
    have hfl : ∀ i, (f i).length = 6 := fun i => by rw [hff]; rfl
    have hfo : ∀ u ∈ (List.range M).flatMap f, u.oneCell' = true := by
      intro u hu
      simp only [List.mem_flatMap] at hu
      obtain ⟨i, _, hi⟩ := hu
      rw [hff] at hi
      simp only [prfA, List.mem_cons, List.not_mem_nil, or_false] at hi
      rcases hi with rfl | rfl | rfl | rfl | rfl | rfl <;> rfl
    obtain ⟨wC, hwC⟩ : ∃ V, V = w4 := ⟨_, rfl⟩
    have k2 := K2.out
    have k3 := K3.out
    have k4 := K4.out
    have hf := HF.out
    rw [← hwC] at k2 k3 k4 hf ⊢
    clear hwC K2 K3 K4 HF
    have K2 := Lib.hid k2
    have K3 := Lib.hid k3
    have K4 := Lib.hid k4
    have HF := Lib.hid hf
    have HRW := Lib.hid hrr
    have HFL := Lib.hid hfl
    have HFO := Lib.hid hfo
    have HFF := Lib.hid hff
    clear hff hfo hfl hrr hf k4 k3 k2
    go_cut [87] from 80 to 87 (fun s87 w' => ∃ rb ro rc, Frm w.heap.size [] w w' ∧ Blk w' w.heap.size 55 (C.set 5 (.slice (some ⟨rb, ro, none⟩) (M + 1) rc)) ∧ Blk w' (w.heap.size + 2) 55 zero55 ∧ Rw w' 6 (some ⟨rb, ro, none⟩) rb ro (M + 1) (fun i => if i < M then f i else P) ∧ w.heap.size + 2 < rb)
    case first =>
      have hfx : ∀ V, Frm wC.heap.size [] wC V → V.cell? ⟨w.heap.size, 5, none⟩ = some (.slice m.qa M m.qc) ∧ True := fun V hV => ⟨((hV.blk K2.out K2.out.lt (by simp)).cell 5).trans HC5.out, trivial⟩
      have hl39 : ∀ V, Frm wC.heap.size [] wC V → (loadVar 39 ⟨w.heap.size + 1, 0, none⟩).run Try.prog V = .ok (.agg #[.int .i64 1, .int .i64 (x : Int), .int .i64 time, .string by_, .slice pad wh.length pcap, .int .i64 count]) V := fun V hV => by have g := load39 (hV.blk K3.out K3.out.lt (by simp)) HP6.out; rw [HPP.out] at g; exact g
      have hrC : ∀ V, Frm wC.heap.size [] wC V → Rw V 6 m.qa m.qb m.qo M f := fun V hV => HRW.out V (HF.out.call hV HF.out.size (by simp))
      have hd5 : C[5]? = some (.slice m.qa M m.qc) := HC5.out
      have HFX := Lib.hid hfx
      have HL39 := Lib.hid hl39
      have HRC := Lib.hid hrC
      have HD5 := Lib.hid hd5
      clear hd5 hrC hl39 hfx
      refine wp_region_leftL (fun V => Frm wC.heap.size [] wC V) 8 (by kernel_rfl) ?_
      have hS : Frm wC.heap.size [] wC wC.drew := (Frm.refl _ _ wC).drew
      have HS := Lib.hid hS
      clear hS
      have hS := HS.out
      obtain ⟨wD, hwD⟩ : ∃ V, V = wC.drew := ⟨_, rfl⟩
      rw [← hwD] at hS ⊢
      clear hwD HS
      have HS := Lib.hid hS
      clear hS
      first | (refine LeftL.tkG (v := ?_) 1 rfl HS.out ?_ ?_; rotate_left; · intro V hV; obtain ⟨z1, z2⟩ := HFX.out V hV; clear hV; go_simp; rfl) | refine LeftL.tkN 1 rfl HS.out ?_
      (intro K h; go_simp; refine h _ ?_; clear h K)
      first | (refine LeftL.tkG (v := ?_) 2 rfl HS.out ?_ ?_; rotate_left; · intro V hV; obtain ⟨z1, z2⟩ := HFX.out V hV; clear hV; go_simp; rfl) | refine LeftL.tkN 2 rfl HS.out ?_
      (intro K h; go_simp; refine h _ ?_; clear h K)
      refine LeftL.take 4 rfl (by kernel_rfl) (fun _ _ d _ _ h => by cases d <;> exact h) (yields_loadE (ty := 39) rfl rfl rfl (HL39.out)) HS.out ?_; (intro K' hK'; go_simp; refine hK' _ ?_; clear hK' K')
      refine LeftL.two 0 5 rfl rfl (by kernel_rfl) ?_ ?_
      · go_wp2_with fail
        have hS := HS.out.alloc HS.out.size (Obj.cells #[] 39)
        have hsl := sl_buildEmpty wD 39 6
        obtain ⟨wE, hwG⟩ : ∃ V, V = wD.alloc (Obj.cells #[] 39) := ⟨_, rfl⟩
        rw [← hwG] at hS hsl ⊢
        have hwE : wE.heap.size = wD.heap.size + 1 := by rw [hwG]; simp
        have hfE : Frm wD.heap.size [] wD wE := by rw [hwG]; exact (Frm.refl _ _ _).alloc (Nat.le_refl _) _
        first | refine ⟨fun _ => hS, ?_⟩ | refine ⟨hS, ?_⟩
        have hdC := HS.out.size
        clear hwG HS
        have HS := Lib.hid hS
        have HSL := Lib.hid hsl
        have HWE := Lib.hid hwE
        have HDC := Lib.hid hdC
        clear hdC hwE hsl hS
        clear hfE
        refine LeftL.two 3 5 rfl rfl (by kernel_rfl) ?_ ?_
        · have hrA := HRC.out wE HS.out
          refine wpList_append_rw rfl (.tmp 80) (.tmp 82) 53 rfl 39 i39 _ 6 72 Try.underlying53 HI39.out HY0.out HY1.out HY2.out rfl _ 0 [] _ rfl HSL.out m.qa m.qb m.qo M m.qc ((List.range M).flatMap f) rfl hrA.ad (flat_len HFL.out M) (hrA.cells HFL.out (by decide)) HFO.out (by have := HMM.out; unfold maxLen; omega) (by have := HMM.out; omega) ?_
          intro v3 wF own3 hsl hfA hoA
          rw [List.nil_append, Nat.zero_add] at hsl
          refine wpList_nil ?_
          dsimp only [Act.put]
          have hdC := HDC.out
          have hown : ∀ g, own3 = some g → wC.heap.size ≤ g := fun g hg => by
            rcases hoA with h | ⟨x, h, hx⟩
            · rw [hg] at h; cases h; exact hdC
            · rw [hg] at h; cases h; exact Nat.le_trans HS.out.size hx
          have hS := HS.out.call hfA HS.out.size (fun x hx hm => absurd hx (by have e : x = wD.heap.size := (by simpa using hm); omega))
          first | refine ⟨fun _ => hS, ?_⟩ | refine ⟨hS, ?_⟩
          clear HSL HS hoA hrA hdC
          have HS := Lib.hid hS
          have HSL := Lib.hid hsl
          have HOWN := Lib.hid hown
          clear hown hsl hS
          refine LeftL.one 5 rfl (by kernel_rfl) ?_
          go_wp2_with fail
          have hS := HS.out.alloc HS.out.size (Obj.cells #[.int .i64 1, .int .i64 (x : Int), .int .i64 time, .string by_, .slice pad wh.length pcap, .int .i64 count] 39)
          obtain ⟨wG, hwG⟩ : ∃ V, V = wF.alloc (Obj.cells #[.int .i64 1, .int .i64 (x : Int), .int .i64 time, .string by_, .slice pad wh.length pcap, .int .i64 count] 39) := ⟨_, rfl⟩
          have hnews : ∀ j u, P[j]? = some u → wG.cell? ((⟨wF.heap.size, 0, none⟩ : Addr).add j) = some u := by rw [hwG, HPP.out]; exact news_alloc wF (prfA ⟨1, (x : Int), time, by_, wh, count⟩ pad pcap) 39
          rw [← hwG] at hS ⊢
          first | refine ⟨fun _ => hS, ?_⟩ | refine ⟨hS, ?_⟩
          clear HS
          have HS := Lib.hid hS
          have HNEWS := Lib.hid hnews
          clear hnews hS
          have hsl := HSL.out.alloc (Obj.cells #[.int .i64 1, .int .i64 (x : Int), .int .i64 time, .string by_, .slice pad wh.length pcap, .int .i64 count] 39)
          rw [← hwG] at hsl
          clear hwG HSL
          have HSL := Lib.hid hsl
          clear hsl
          clear HWE HDC
          refine LeftL.one 6 rfl (by kernel_rfl) ?_
          refine wpList_append_sl _ rfl (.tmp 83) (.tmp 85) 53 rfl 39 i39 _ 6 72 Try.underlying53 HI39.out HY0.out HY1.out HY2.out rfl _ M _ own3 rfl HSL.out ⟨wF.heap.size, 0, none⟩ 1 1 P rfl (by rw [HP6.out]) HNEWS.out HP1.out (by have := HMM.out; unfold maxLen; omega) (by have := HMM.out; omega) ?_
          intro v4 wH own4 hs4 hf4 ho4
          refine wpList_nil ?_
          dsimp only [Act.put]
          obtain ⟨rb, ro, rc, hv4, hown4, hrw4⟩ := Rw.snoc HP6.out HFL.out hs4
          subst hv4
          have hS := HS.out.call hf4 HS.out.size (fun x hx hm => absurd hx (by have e := HOWN.out x (by simpa using hm); omega))
          have hk4l := K4.out.lt
          have hrb : w.heap.size + 2 < rb := by
            rcases ho4 with h | ⟨x, h, hx⟩
            · have := HOWN.out rb (by rw [← h]; exact hown4); omega
            · rw [hown4] at h; cases h; have := HS.out.size; omega
          have k2 := hS.blk K2.out K2.out.lt (by simp)
          have k4 := hS.blk K4.out K4.out.lt (by simp)
          have hf := HF.out.call hS HF.out.size (by simp)
          have c2 := (k2.cell 5).trans HD5.out
          have g2 := k2.free 5
          first | refine ⟨fun _ => hS, ?_⟩ | refine ⟨hS, ?_⟩
          clear hs4 hf4 ho4 hown4 hk4l HS HSL HOWN HNEWS HFX HL39 HRC
          have HS := Lib.hid hS
          have HR4 := Lib.hid hrw4
          have HRB := Lib.hid hrb
          have KK2 := Lib.hid k2
          have KK4 := Lib.hid k4
          have HF4 := Lib.hid hf
          clear hf k4 k2 hrb hrw4 hS
          refine LeftL.one 7 rfl (by kernel_rfl) ?_
          go_wp2_with fail
          first | refine ⟨fun _ => HS.out, ?_⟩ | refine ⟨HS.out, ?_⟩
          refine LeftL.one 8 rfl (by kernel_rfl) ?_
          go_wp2_with fail
          clear c2 g2
          have hfin : Frm w.heap.size [] w (wH.setCell ⟨w.heap.size, 5, none⟩ (.slice (some ⟨rb, ro, none⟩) (M + 1) rc)) ∧ Blk (wH.setCell ⟨w.heap.size, 5, none⟩ (.slice (some ⟨rb, ro, none⟩) (M + 1) rc)) w.heap.size 55 (C.set 5 (.slice (some ⟨rb, ro, none⟩) (M + 1) rc)) ∧ Blk (wH.setCell ⟨w.heap.size, 5, none⟩ (.slice (some ⟨rb, ro, none⟩) (M + 1) rc)) (w.heap.size + 2) 55 zero55 ∧ Rw (wH.setCell ⟨w.heap.size, 5, none⟩ (.slice (some ⟨rb, ro, none⟩) (M + 1) rc)) 6 (some ⟨rb, ro, none⟩) rb ro (M + 1) (fun i => if i < M then f i else P) ∧ w.heap.size + 2 < rb := by
            have g := (Frm.refl wH.heap.size [w.heap.size] wH).setCell (p := ⟨w.heap.size, 5, none⟩) (.inl (by simp)) (.slice (some ⟨rb, ro, none⟩) (M + 1) rc)
            refine ⟨HF4.out.setCell (p := ⟨w.heap.size, 5, none⟩) (.inr (Nat.le_refl _)) _, KK2.out.set 5 _, KK4.out.other ⟨w.heap.size, 5, none⟩ (by show w.heap.size ≠ w.heap.size + 2; omega) _, ?_, HRB.out⟩
            · exact HR4.out.frmS g (by have := HRB.out; simp; omega)
          generalize World.setCell wH _ _ = wI at hfin ⊢
          first | refine ⟨fun h => absurd rfl h, ?_⟩ | skip
          refine LeftL.done (by kernel_rfl) ?_
          clear HS HR4 HRB KK2 KK4 HF4
          have HFIN := Lib.hid hfin
          clear hfin
          go_wp2_with fail
          go_meet
          case rel => exact ⟨rb, ro, rc, HFIN.out⟩
        · go_wp2_with fail
          have hS := HS.out.alloc HS.out.size (Obj.cells #[.int .i64 1, .int .i64 (x : Int), .int .i64 time, .string by_, .slice pad wh.length pcap, .int .i64 count] 39)
          obtain ⟨wF, hwG⟩ : ∃ V, V = wE.alloc (Obj.cells #[.int .i64 1, .int .i64 (x : Int), .int .i64 time, .string by_, .slice pad wh.length pcap, .int .i64 count] 39) := ⟨_, rfl⟩
          have hnews : ∀ j u, P[j]? = some u → wF.cell? ((⟨wE.heap.size, 0, none⟩ : Addr).add j) = some u := by rw [hwG, HPP.out]; exact news_alloc wE (prfA ⟨1, (x : Int), time, by_, wh, count⟩ pad pcap) 39
          rw [← hwG] at hS ⊢
          first | refine ⟨fun _ => hS, ?_⟩ | refine ⟨hS, ?_⟩
          clear HS
          have HS := Lib.hid hS
          have HNEWS := Lib.hid hnews
          clear hnews hS
          have hsl := HSL.out.alloc (Obj.cells #[.int .i64 1, .int .i64 (x : Int), .int .i64 time, .string by_, .slice pad wh.length pcap, .int .i64 count] 39)
          rw [← hwG] at hsl
          have hwF : wF.heap.size = wE.heap.size + 1 := by rw [hwG]; simp
          clear hwG HSL
          have HSL := Lib.hid hsl
          clear hsl
          refine LeftL.one 3 rfl (by kernel_rfl) ?_
          have hrA := HRC.out wF HS.out
          refine wpList_append_rw rfl (.tmp 80) (.tmp 82) 53 rfl 39 i39 _ 6 72 Try.underlying53 HI39.out HY0.out HY1.out HY2.out rfl _ 0 [] _ rfl HSL.out m.qa m.qb m.qo M m.qc ((List.range M).flatMap f) rfl hrA.ad (flat_len HFL.out M) (hrA.cells HFL.out (by decide)) HFO.out (by have := HMM.out; unfold maxLen; omega) (by have := HMM.out; omega) ?_
          intro v3 wG own3 hsl hfA hoA
          rw [List.nil_append, Nat.zero_add] at hsl
          refine wpList_nil ?_
          dsimp only [Act.put]
          have hdC := HDC.out
          have hown : ∀ g, own3 = some g → wC.heap.size ≤ g := fun g hg => by
            rcases hoA with h | ⟨x, h, hx⟩
            · rw [hg] at h; cases h; exact hdC
            · rw [hg] at h; cases h; exact Nat.le_trans HS.out.size hx
          have hS := HS.out.call hfA HS.out.size (fun x hx hm => absurd hx (by have e : x = wD.heap.size := (by simpa using hm); omega))
          first | refine ⟨fun _ => hS, ?_⟩ | refine ⟨hS, ?_⟩
          clear HSL HS hoA hrA hdC
          have HS := Lib.hid hS
          have HSL := Lib.hid hsl
          have HOWN := Lib.hid hown
          clear hown hsl hS
          have hnews : ∀ j u, P[j]? = some u → wG.cell? ((⟨wE.heap.size, 0, none⟩ : Addr).add j) = some u := fun j u hj => by
            have hadd : (⟨wE.heap.size, 0, none⟩ : Addr).add j = ⟨wE.heap.size, j, none⟩ := by unfold Addr.add; split <;> simp_all
            have h1 := HNEWS.out j u hj
            rw [hadd] at h1 ⊢
            rw [hfA.cell (p := ⟨wE.heap.size, j, none⟩) (by show wE.heap.size < wF.heap.size; omega) (by rw [HWE.out]; simp)]
            exact h1
          clear HNEWS hfA hwF
          have HNEWS := Lib.hid hnews
          clear hnews
          clear HWE HDC
          refine LeftL.one 6 rfl (by kernel_rfl) ?_
          refine wpList_append_sl _ rfl (.tmp 83) (.tmp 85) 53 rfl 39 i39 _ 6 72 Try.underlying53 HI39.out HY0.out HY1.out HY2.out rfl _ M _ own3 rfl HSL.out ⟨wE.heap.size, 0, none⟩ 1 1 P rfl (by rw [HP6.out]) HNEWS.out HP1.out (by have := HMM.out; unfold maxLen; omega) (by have := HMM.out; omega) ?_
          intro v4 wH own4 hs4 hf4 ho4
          refine wpList_nil ?_
          dsimp only [Act.put]
          obtain ⟨rb, ro, rc, hv4, hown4, hrw4⟩ := Rw.snoc HP6.out HFL.out hs4
          subst hv4
          have hS := HS.out.call hf4 HS.out.size (fun x hx hm => absurd hx (by have e := HOWN.out x (by simpa using hm); omega))
          have hk4l := K4.out.lt
          have hrb : w.heap.size + 2 < rb := by
            rcases ho4 with h | ⟨x, h, hx⟩
            · have := HOWN.out rb (by rw [← h]; exact hown4); omega
            · rw [hown4] at h; cases h; have := HS.out.size; omega
          have k2 := hS.blk K2.out K2.out.lt (by simp)
          have k4 := hS.blk K4.out K4.out.lt (by simp)
          have hf := HF.out.call hS HF.out.size (by simp)
          have c2 := (k2.cell 5).trans HD5.out
          have g2 := k2.free 5
          first | refine ⟨fun _ => hS, ?_⟩ | refine ⟨hS, ?_⟩
          clear hs4 hf4 ho4 hown4 hk4l HS HSL HOWN HNEWS HFX HL39 HRC
          have HS := Lib.hid hS
          have HR4 := Lib.hid hrw4
          have HRB := Lib.hid hrb
          have KK2 := Lib.hid k2
          have KK4 := Lib.hid k4
          have HF4 := Lib.hid hf
          clear hf k4 k2 hrb hrw4 hS
          refine LeftL.one 7 rfl (by kernel_rfl) ?_
          go_wp2_with fail
          first | refine ⟨fun _ => HS.out, ?_⟩ | refine ⟨HS.out, ?_⟩
          refine LeftL.one 8 rfl (by kernel_rfl) ?_
          go_wp2_with fail
          clear c2 g2
          have hfin : Frm w.heap.size [] w (wH.setCell ⟨w.heap.size, 5, none⟩ (.slice (some ⟨rb, ro, none⟩) (M + 1) rc)) ∧ Blk (wH.setCell ⟨w.heap.size, 5, none⟩ (.slice (some ⟨rb, ro, none⟩) (M + 1) rc)) w.heap.size 55 (C.set 5 (.slice (some ⟨rb, ro, none⟩) (M + 1) rc)) ∧ Blk (wH.setCell ⟨w.heap.size, 5, none⟩ (.slice (some ⟨rb, ro, none⟩) (M + 1) rc)) (w.heap.size + 2) 55 zero55 ∧ Rw (wH.setCell ⟨w.heap.size, 5, none⟩ (.slice (some ⟨rb, ro, none⟩) (M + 1) rc)) 6 (some ⟨rb, ro, none⟩) rb ro (M + 1) (fun i => if i < M then f i else P) ∧ w.heap.size + 2 < rb := by
            have g := (Frm.refl wH.heap.size [w.heap.size] wH).setCell (p := ⟨w.heap.size, 5, none⟩) (.inl (by simp)) (.slice (some ⟨rb, ro, none⟩) (M + 1) rc)
            refine ⟨HF4.out.setCell (p := ⟨w.heap.size, 5, none⟩) (.inr (Nat.le_refl _)) _, KK2.out.set 5 _, KK4.out.other ⟨w.heap.size, 5, none⟩ (by show w.heap.size ≠ w.heap.size + 2; omega) _, ?_, HRB.out⟩
            · exact HR4.out.frmS g (by have := HRB.out; simp; omega)
          generalize World.setCell wH _ _ = wI at hfin ⊢
          first | refine ⟨fun h => absurd rfl h, ?_⟩ | skip
          refine LeftL.done (by kernel_rfl) ?_
          clear HS HR4 HRB KK2 KK4 HF4
          have HFIN := Lib.hid hfin
          clear hfin
          go_wp2_with fail
          go_meet
          case rel => exact ⟨rb, ro, rc, HFIN.out⟩
      · go_wp2_with fail
        have hS := HS.out.alloc HS.out.size (Obj.cells #[.int .i64 1, .int .i64 (x : Int), .int .i64 time, .string by_, .slice pad wh.length pcap, .int .i64 count] 39)
        obtain ⟨wE, hwG⟩ : ∃ V, V = wD.alloc (Obj.cells #[.int .i64 1, .int .i64 (x : Int), .int .i64 time, .string by_, .slice pad wh.length pcap, .int .i64 count] 39) := ⟨_, rfl⟩
        have hnews : ∀ j u, P[j]? = some u → wE.cell? ((⟨wD.heap.size, 0, none⟩ : Addr).add j) = some u := by rw [hwG, HPP.out]; exact news_alloc wD (prfA ⟨1, (x : Int), time, by_, wh, count⟩ pad pcap) 39
        rw [← hwG] at hS ⊢
        first | refine ⟨fun _ => hS, ?_⟩ | refine ⟨hS, ?_⟩
        clear HS
        have HS := Lib.hid hS
        have HNEWS := Lib.hid hnews
        clear hnews hS
        have hwD2 : wE.heap.size = wD.heap.size + 1 := by rw [hwG]; simp
        clear hwG
        have HWD2 := Lib.hid hwD2
        clear hwD2
        refine LeftL.one 0 rfl (by kernel_rfl) ?_
        go_wp2_with fail
        have hS := HS.out.alloc HS.out.size (Obj.cells #[] 39)
        have hsl := sl_buildEmpty wE 39 6
        obtain ⟨wF, hwG⟩ : ∃ V, V = wE.alloc (Obj.cells #[] 39) := ⟨_, rfl⟩
        rw [← hwG] at hS hsl ⊢
        have hwE : wF.heap.size = wE.heap.size + 1 := by rw [hwG]; simp
        have hfE : Frm wE.heap.size [] wE wF := by rw [hwG]; exact (Frm.refl _ _ _).alloc (Nat.le_refl _) _
        first | refine ⟨fun _ => hS, ?_⟩ | refine ⟨hS, ?_⟩
        have hdC := HS.out.size
        clear hwG HS
        have HS := Lib.hid hS
        have HSL := Lib.hid hsl
        have HWE := Lib.hid hwE
        have HDC := Lib.hid hdC
        clear hdC hwE hsl hS
        have hnews : ∀ j u, P[j]? = some u → wF.cell? ((⟨wD.heap.size, 0, none⟩ : Addr).add j) = some u := fun j u hj => by
          have hadd : (⟨wD.heap.size, 0, none⟩ : Addr).add j = ⟨wD.heap.size, j, none⟩ := by unfold Addr.add; split <;> simp_all
          have h1 := HNEWS.out j u hj
          rw [hadd] at h1 ⊢
          rw [hfE.cell (p := ⟨wD.heap.size, j, none⟩) (by have := HWD2.out; show wD.heap.size < wE.heap.size; omega) (by simp)]
          exact h1
        clear HNEWS hfE
        have HNEWS := Lib.hid hnews
        clear hnews
        refine LeftL.one 3 rfl (by kernel_rfl) ?_
        have hrA := HRC.out wF HS.out
        refine wpList_append_rw rfl (.tmp 80) (.tmp 82) 53 rfl 39 i39 _ 6 72 Try.underlying53 HI39.out HY0.out HY1.out HY2.out rfl _ 0 [] _ rfl HSL.out m.qa m.qb m.qo M m.qc ((List.range M).flatMap f) rfl hrA.ad (flat_len HFL.out M) (hrA.cells HFL.out (by decide)) HFO.out (by have := HMM.out; unfold maxLen; omega) (by have := HMM.out; omega) ?_
        intro v3 wG own3 hsl hfA hoA
        rw [List.nil_append, Nat.zero_add] at hsl
        refine wpList_nil ?_
        dsimp only [Act.put]
        have hdC := HDC.out
        have hown : ∀ g, own3 = some g → wC.heap.size ≤ g := fun g hg => by
          rcases hoA with h | ⟨x, h, hx⟩
          · rw [hg] at h; cases h; exact hdC
          · rw [hg] at h; cases h; exact Nat.le_trans HS.out.size hx
        have hS := HS.out.call hfA HS.out.size (fun x hx hm => absurd hx (by have e : x = wE.heap.size := (by simpa using hm); omega))
        first | refine ⟨fun _ => hS, ?_⟩ | refine ⟨hS, ?_⟩
        clear HSL HS hoA hrA hdC
        have HS := Lib.hid hS
        have HSL := Lib.hid hsl
        have HOWN := Lib.hid hown
        clear hown hsl hS
        have hnews : ∀ j u, P[j]? = some u → wG.cell? ((⟨wD.heap.size, 0, none⟩ : Addr).add j) = some u := fun j u hj => by
          have hadd : (⟨wD.heap.size, 0, none⟩ : Addr).add j = ⟨wD.heap.size, j, none⟩ := by unfold Addr.add; split <;> simp_all
          have h1 := HNEWS.out j u hj
          rw [hadd] at h1 ⊢
          rw [hfA.cell (p := ⟨wD.heap.size, j, none⟩) (by have := HWD2.out; have := HWE.out; show wD.heap.size < wF.heap.size; omega) (by have := HWD2.out; simp; omega)]
          exact h1
        clear HNEWS hfA HWD2
        have HNEWS := Lib.hid hnews
        clear hnews
        clear HWE HDC
        refine LeftL.one 6 rfl (by kernel_rfl) ?_
        refine wpList_append_sl _ rfl (.tmp 83) (.tmp 85) 53 rfl 39 i39 _ 6 72 Try.underlying53 HI39.out HY0.out HY1.out HY2.out rfl _ M _ own3 rfl HSL.out ⟨wD.heap.size, 0, none⟩ 1 1 P rfl (by rw [HP6.out]) HNEWS.out HP1.out (by have := HMM.out; unfold maxLen; omega) (by have := HMM.out; omega) ?_
        intro v4 wH own4 hs4 hf4 ho4
        refine wpList_nil ?_
        dsimp only [Act.put]
        obtain ⟨rb, ro, rc, hv4, hown4, hrw4⟩ := Rw.snoc HP6.out HFL.out hs4
        subst hv4
        have hS := HS.out.call hf4 HS.out.size (fun x hx hm => absurd hx (by have e := HOWN.out x (by simpa using hm); omega))
        have hk4l := K4.out.lt
        have hrb : w.heap.size + 2 < rb := by
          rcases ho4 with h | ⟨x, h, hx⟩
          · have := HOWN.out rb (by rw [← h]; exact hown4); omega
          · rw [hown4] at h; cases h; have := HS.out.size; omega
        have k2 := hS.blk K2.out K2.out.lt (by simp)
        have k4 := hS.blk K4.out K4.out.lt (by simp)
        have hf := HF.out.call hS HF.out.size (by simp)
        have c2 := (k2.cell 5).trans HD5.out
        have g2 := k2.free 5
        first | refine ⟨fun _ => hS, ?_⟩ | refine ⟨hS, ?_⟩
        clear hs4 hf4 ho4 hown4 hk4l HS HSL HOWN HNEWS HFX HL39 HRC
        have HS := Lib.hid hS
        have HR4 := Lib.hid hrw4
        have HRB := Lib.hid hrb
        have KK2 := Lib.hid k2
        have KK4 := Lib.hid k4
        have HF4 := Lib.hid hf
        clear hf k4 k2 hrb hrw4 hS
        refine LeftL.one 7 rfl (by kernel_rfl) ?_
        go_wp2_with fail
        first | refine ⟨fun _ => HS.out, ?_⟩ | refine ⟨HS.out, ?_⟩
        refine LeftL.one 8 rfl (by kernel_rfl) ?_
        go_wp2_with fail
        clear c2 g2
        have hfin : Frm w.heap.size [] w (wH.setCell ⟨w.heap.size, 5, none⟩ (.slice (some ⟨rb, ro, none⟩) (M + 1) rc)) ∧ Blk (wH.setCell ⟨w.heap.size, 5, none⟩ (.slice (some ⟨rb, ro, none⟩) (M + 1) rc)) w.heap.size 55 (C.set 5 (.slice (some ⟨rb, ro, none⟩) (M + 1) rc)) ∧ Blk (wH.setCell ⟨w.heap.size, 5, none⟩ (.slice (some ⟨rb, ro, none⟩) (M + 1) rc)) (w.heap.size + 2) 55 zero55 ∧ Rw (wH.setCell ⟨w.heap.size, 5, none⟩ (.slice (some ⟨rb, ro, none⟩) (M + 1) rc)) 6 (some ⟨rb, ro, none⟩) rb ro (M + 1) (fun i => if i < M then f i else P) ∧ w.heap.size + 2 < rb := by
          have g := (Frm.refl wH.heap.size [w.heap.size] wH).setCell (p := ⟨w.heap.size, 5, none⟩) (.inl (by simp)) (.slice (some ⟨rb, ro, none⟩) (M + 1) rc)
          refine ⟨HF4.out.setCell (p := ⟨w.heap.size, 5, none⟩) (.inr (Nat.le_refl _)) _, KK2.out.set 5 _, KK4.out.other ⟨w.heap.size, 5, none⟩ (by show w.heap.size ≠ w.heap.size + 2; omega) _, ?_, HRB.out⟩
          · exact HR4.out.frmS g (by have := HRB.out; simp; omega)
        generalize World.setCell wH _ _ = wI at hfin ⊢
        first | refine ⟨fun h => absurd rfl h, ?_⟩ | skip
        refine LeftL.done (by kernel_rfl) ?_
        clear HS HR4 HRB KK2 KK4 HF4
        have HFIN := Lib.hid hfin
        clear hfin
        go_wp2_with fail
        go_meet
        case rel => exact ⟨rb, ro, rc, HFIN.out⟩
    obtain ⟨rb, ro, rc, hf, k2, k4, hprf, hrb⟩ := hcut
    obtain ⟨wJ, hwJ⟩ : ∃ V, V = wc := ⟨_, rfl⟩
    rw [← hwJ] at hf k2 k4 hprf ⊢
    clear hwJ HRW K2 K3 K4 HF HFO HFL
    obtain ⟨C4, hC4⟩ : ∃ c, c = C.set 5 (.slice (some ⟨rb, ro, none⟩) (M + 1) rc) := ⟨_, rfl⟩
    rw [← hC4] at k2
    have hz64 : C4.length = 6 := by rw [hC4, List.length_set]; exact HZ6.out
    rw [HFF.out, HPP.out] at hprf
    obtain ⟨m', hm'⟩ : ∃ z, z = m.proved M rb ro rc pad b o pcap := ⟨_, rfl⟩
    have hC4e : C4 = refC { s with prf := s.prf ++ [⟨1, (x : Int), time, by_, wh, count⟩] } m' := by
      rw [hC4, HC.out, hm']
      exact proved_refC HM.out
    have hone : ∀ u ∈ C4, u.oneCell' = true := by rw [hC4e]; exact refC_one _ _
    clear hC4 HFF
    have K2 := Lib.hid k2
    have K4 := Lib.hid k4
    have HF := Lib.hid hf
    have HPRF := Lib.hid hprf
    have HRB := Lib.hid hrb
    have HZ64 := Lib.hid hz64
    have HC4E := Lib.hid hC4e
    have HONE := Lib.hid hone
    have HM2 := Lib.hid hm'
    clear hm' hone hC4e hz64 hrb hprf hf k4 k2
    go_wp2_with (first | (with_reducible refine atLoad 55 rfl ?_; refine wpList_loadE rfl rfl rfl (load55 K2.out HZ64.out) ?_) | (with_reducible refine atStore 55 rfl ?_; refine stop_ ?_))
    refine go_on ?_
    refine wpList_storeB (P := Try.prog) (cs := C4) rfl rfl K4.out rfl rfl (by rw [HZ64.out]; rfl) (by rw [HZ64.out]; exact info55) HONE.out ?_
    have k4 := K4.out.row C4
    have hnx : RNext w (wJ.setRow (w.heap.size + 2) C4.toArray) s { s with prf := s.prf ++ [⟨1, (x : Int), time, by_, wh, count⟩] } m m' (fun S => 0 < wh.length → b ∉ S) := by
      have g := (Frm.refl wJ.heap.size [w.heap.size + 2] wJ).setRow (g := w.heap.size + 2) (.inl (by simp)) C4.toArray
      rw [HM2.out]
      exact RNext.proved HH.out (HF.out.setRow (g := w.heap.size + 2) (.inr (by omega)) C4.toArray) (p := ⟨1, (x : Int), time, by_, wh, count⟩) HP.out HM.out (HPRF.out.frmS g (by have := HRB.out; simp; omega)) (by have := HRB.out; omega) HINV.out
    generalize World.setRow wJ _ _ = wN at k4 hnx ⊢
    clear K4 HF HPRF K2
    dsimp only [Act.put]
    have HNX := Lib.hid hnx
    have K4 := Lib.hid k4
    clear k4 hnx
    go_wp2_with fail
    refine bodyPost_ret (results_ct Try.results42 K4.out rfl Try.underlying55 rfl (by rw [HZ64.out]; exact info55)) rfl ?_
    refine ⟨m', ?_, HNX.out⟩
    rw [HC4E.out]
    rfl
  · have h2 : (rgt && (decide (kind = 1) || decide (count = 0))) = true := by rw [HRG.out]; simp [h0]
    have h1b : (kind == 1) = false := by simp [h1]
    subst h0
    have H2 := Lib.hid h2
    clear h2
    go_wp2_with (first | (with_reducible refine atLoad 55 rfl ?_; refine wpList_loadGE rfl rfl rfl (load55 K2.out HZ6.out) ?_) | (with_reducible refine atLoad 39 rfl ?_; refine wpList_loadGE rfl rfl rfl (load39 K3.out HP6.out) ?_) | (with_reducible refine atLoad 24 rfl ?_; refine wpList_loadGE rfl rfl rfl (load24 K6.out R7.out) ?_))
    refine (H69.out w3 HF.out).mono ?_; rintro e w4 ⟨rfl, hf1⟩
    clear c0 c2 c3 c4 c5 d1 H69 HRG
    have k2 := hf1.blk K2.out K2.out.lt (by simp)
    have k3 := hf1.blk K3.out K3.out.lt (by simp)
    have k4 := hf1.blk K4.out K4.out.lt (by simp)
    have k6 := hf1.blk K6.out K6.out.lt (by simp)
    have hf := HF.out.call hf1 HF.out.size (by simp)
    clear hf1 HF K2 K3 K4 K6
    have HF := Lib.hid hf
    have K2 := Lib.hid k2
    have K3 := Lib.hid k3
    have K4 := Lib.hid k4
    have K6 := Lib.hid k6
    clear k6 k4 k3 k2 hf
    cases fit
    · have hc : res = (s, 2) := HBAD.out (by simp)
      clear H2
      subst hc
      clear HBAD HGOOD
      go_wp2_with (first | (with_reducible refine atLoad 55 rfl ?_; refine wpList_loadE rfl rfl rfl (load55 K2.out HZ6.out) ?_) | (with_reducible refine atStore 55 rfl ?_; refine stop_ ?_))
      refine go_on ?_
      clear K6
      refine wpList_storeB (P := Try.prog) (cs := C) rfl rfl K4.out rfl rfl (by rw [HZ6.out]; rfl) (by rw [HZ6.out]; exact info55) HC1.out ?_
      have k4 := K4.out.row C
      have hf := HF.out.setRow (g := w.heap.size + 2) (.inr (by omega)) C.toArray
      generalize World.setRow w4 _ _ = w9 at k4 hf ⊢
      clear HF K4 K2 K3
      dsimp only [Act.put]
      have hi6 : (Try.prog.info? 55).map (fun i => i.size) = some C.length := by rw [HZ6.out]; exact info55
      have HF := Lib.hid hf
      have K4 := Lib.hid k4
      have HI6 := Lib.hid hi6
      clear hi6 k4 hf
      go_wp2_with fail
      refine bodyPost_ret (results_ct Try.results42 K4.out rfl Try.underlying55 rfl HI6.out) rfl ?_
      rw [HC.out]
      exact ⟨m, rfl, RNext.stay HH.out HF.out⟩
    have hgood := HGOOD.out (by rw [H2.out]; rfl)
    clear HBAD HGOOD H2 K6 H6L Q1
    have c5 : w4.cell? ⟨w.heap.size, 5, none⟩ = some (.slice m.qa M m.qc) := (K2.out.cell 5).trans HC5.out
    by_cases h5 : M = 500
    · rw [if_pos h5] at hgood
      subst hgood
      subst h5
      go_wp2_with (first | (with_reducible refine atLoad 55 rfl ?_; refine wpList_loadE rfl rfl rfl (load55 K2.out HZ6.out) ?_) | (with_reducible refine atStore 55 rfl ?_; refine stop_ ?_))
      refine go_on ?_
      clear c5
      refine wpList_storeB (P := Try.prog) (cs := C) rfl rfl K4.out rfl rfl (by rw [HZ6.out]; rfl) (by rw [HZ6.out]; exact info55) HC1.out ?_
      have k4 := K4.out.row C
      have hf := HF.out.setRow (g := w.heap.size + 2) (.inr (by omega)) C.toArray
      generalize World.setRow w4 _ _ = w9 at k4 hf ⊢
      clear HF K4 K2 K3
      dsimp only [Act.put]
      have hi6 : (Try.prog.info? 55).map (fun i => i.size) = some C.length := by rw [HZ6.out]; exact info55
      have HF := Lib.hid hf
      have K4 := Lib.hid k4
      have HI6 := Lib.hid hi6
      clear hi6 k4 hf
      go_wp2_with fail
      refine bodyPost_ret (results_ct Try.results42 K4.out rfl Try.underlying55 rfl HI6.out) rfl ?_
      rw [HC.out]
      exact ⟨m, rfl, RNext.stay HH.out HF.out⟩
    rw [if_neg h5] at hgood
    have h5b : ((M : Int) == 500) = false := by simp; omega
    have h5c : ¬ (M : Int) = 500 := by omega
    subst hgood
    have hinv : BInv { s with prf := s.prf ++ [⟨kind, (x : Int), time, by_, wh, 0⟩] } := by
      have h1 := prove_inv HH.out.inv ⟨kind, (x : Int), time, by_, wh, 0⟩
      rw [← HRES.out] at h1
      exact h1
    have HINV := Lib.hid hinv
    clear hinv
    go_upto_region 8 with fail
    clear c5 h5b h5c
    obtain ⟨f, hff⟩ : ∃ f : Nat → List Value, f = fun i => prfA (s.pf i) (m.xa i) (m.xc i) := ⟨_, rfl⟩
    have hrr : ∀ V, Frm w.heap.size [] w V → Rw V 6 m.qa m.qb m.qo M f := fun V hV => by rw [hff, HM.out]; exact (HH.out.still hV).prf
    have hfl : ∀ i, (f i).length = 6 := fun i => by rw [hff]; rfl
    have hfo : ∀ u ∈ (List.range M).flatMap f, u.oneCell' = true := by
      intro u hu
      simp only [List.mem_flatMap] at hu
      obtain ⟨i, _, hi⟩ := hu
      rw [hff] at hi
      simp only [prfA, List.mem_cons, List.not_mem_nil, or_false] at hi
      rcases hi with rfl | rfl | rfl | rfl | rfl | rfl <;> rfl
    obtain ⟨wC, hwC⟩ : ∃ V, V = w4 := ⟨_, rfl⟩
    have k2 := K2.out
    have k3 := K3.out
    have k4 := K4.out
    have hf := HF.out
    rw [← hwC] at k2 k3 k4 hf ⊢
    clear hwC K2 K3 K4 HF
    have K2 := Lib.hid k2
    have K3 := Lib.hid k3
    have K4 := Lib.hid k4
    have HF := Lib.hid hf
    have HRW := Lib.hid hrr
    have HFL := Lib.hid hfl
    have HFO := Lib.hid hfo
    have HFF := Lib.hid hff
    clear hff hfo hfl hrr hf k4 k3 k2
    go_cut [87] from 80 to 87 (fun s87 w' => ∃ rb ro rc, Frm w.heap.size [] w w' ∧ Blk w' w.heap.size 55 (C.set 5 (.slice (some ⟨rb, ro, none⟩) (M + 1) rc)) ∧ Blk w' (w.heap.size + 2) 55 zero55 ∧ Rw w' 6 (some ⟨rb, ro, none⟩) rb ro (M + 1) (fun i => if i < M then f i else P) ∧ w.heap.size + 2 < rb)
    case first =>
      have hfx : ∀ V, Frm wC.heap.size [] wC V → V.cell? ⟨w.heap.size, 5, none⟩ = some (.slice m.qa M m.qc) ∧ True := fun V hV => ⟨((hV.blk K2.out K2.out.lt (by simp)).cell 5).trans HC5.out, trivial⟩
      have hl39 : ∀ V, Frm wC.heap.size [] wC V → (loadVar 39 ⟨w.heap.size + 1, 0, none⟩).run Try.prog V = .ok (.agg #[.int .i64 kind, .int .i64 (x : Int), .int .i64 time, .string by_, .slice pad wh.length pcap, .int .i64 0]) V := fun V hV => by have g := load39 (hV.blk K3.out K3.out.lt (by simp)) HP6.out; rw [HPP.out] at g; exact g
      have hrC : ∀ V, Frm wC.heap.size [] wC V → Rw V 6 m.qa m.qb m.qo M f := fun V hV => HRW.out V (HF.out.call hV HF.out.size (by simp))
      have hd5 : C[5]? = some (.slice m.qa M m.qc) := HC5.out
      have HFX := Lib.hid hfx
      have HL39 := Lib.hid hl39
      have HRC := Lib.hid hrC
      have HD5 := Lib.hid hd5
      clear hd5 hrC hl39 hfx
      refine wp_region_leftL (fun V => Frm wC.heap.size [] wC V) 8 (by kernel_rfl) ?_
      have hS : Frm wC.heap.size [] wC wC.drew := (Frm.refl _ _ wC).drew
      have HS := Lib.hid hS
      clear hS
      have hS := HS.out
      obtain ⟨wD, hwD⟩ : ∃ V, V = wC.drew := ⟨_, rfl⟩
      rw [← hwD] at hS ⊢
      clear hwD HS
      have HS := Lib.hid hS
      clear hS
      first | (refine LeftL.tkG (v := ?_) 1 rfl HS.out ?_ ?_; rotate_left; · intro V hV; obtain ⟨z1, z2⟩ := HFX.out V hV; clear hV; go_simp; rfl) | refine LeftL.tkN 1 rfl HS.out ?_
      (intro K h; go_simp; refine h _ ?_; clear h K)
      first | (refine LeftL.tkG (v := ?_) 2 rfl HS.out ?_ ?_; rotate_left; · intro V hV; obtain ⟨z1, z2⟩ := HFX.out V hV; clear hV; go_simp; rfl) | refine LeftL.tkN 2 rfl HS.out ?_
      (intro K h; go_simp; refine h _ ?_; clear h K)
      refine LeftL.take 4 rfl (by kernel_rfl) (fun _ _ d _ _ h => by cases d <;> exact h) (yields_loadE (ty := 39) rfl rfl rfl (HL39.out)) HS.out ?_; (intro K' hK'; go_simp; refine hK' _ ?_; clear hK' K')
      refine LeftL.two 0 5 rfl rfl (by kernel_rfl) ?_ ?_
      · go_wp2_with fail
        have hS := HS.out.alloc HS.out.size (Obj.cells #[] 39)
        have hsl := sl_buildEmpty wD 39 6
        obtain ⟨wE, hwG⟩ : ∃ V, V = wD.alloc (Obj.cells #[] 39) := ⟨_, rfl⟩
        rw [← hwG] at hS hsl ⊢
        have hwE : wE.heap.size = wD.heap.size + 1 := by rw [hwG]; simp
        have hfE : Frm wD.heap.size [] wD wE := by rw [hwG]; exact (Frm.refl _ _ _).alloc (Nat.le_refl _) _
        first | refine ⟨fun _ => hS, ?_⟩ | refine ⟨hS, ?_⟩
        have hdC := HS.out.size
        clear hwG HS
        have HS := Lib.hid hS
        have HSL := Lib.hid hsl
        have HWE := Lib.hid hwE
        have HDC := Lib.hid hdC
        clear hdC hwE hsl hS
        clear hfE
        refine LeftL.two 3 5 rfl rfl (by kernel_rfl) ?_ ?_
        · have hrA := HRC.out wE HS.out
          refine wpList_append_rw rfl (.tmp 80) (.tmp 82) 53 rfl 39 i39 _ 6 72 Try.underlying53 HI39.out HY0.out HY1.out HY2.out rfl _ 0 [] _ rfl HSL.out m.qa m.qb m.qo M m.qc ((List.range M).flatMap f) rfl hrA.ad (flat_len HFL.out M) (hrA.cells HFL.out (by decide)) HFO.out (by have := HMM.out; unfold maxLen; omega) (by have := HMM.out; omega) ?_
          intro v3 wF own3 hsl hfA hoA
          rw [List.nil_append, Nat.zero_add] at hsl
          refine wpList_nil ?_
          dsimp only [Act.put]
          have hdC := HDC.out
          have hown : ∀ g, own3 = some g → wC.heap.size ≤ g := fun g hg => by
            rcases hoA with h | ⟨x, h, hx⟩
            · rw [hg] at h; cases h; exact hdC
            · rw [hg] at h; cases h; exact Nat.le_trans HS.out.size hx
          have hS := HS.out.call hfA HS.out.size (fun x hx hm => absurd hx (by have e : x = wD.heap.size := (by simpa using hm); omega))
          first | refine ⟨fun _ => hS, ?_⟩ | refine ⟨hS, ?_⟩
          clear HSL HS hoA hrA hdC
          have HS := Lib.hid hS
          have HSL := Lib.hid hsl
          have HOWN := Lib.hid hown
          clear hown hsl hS
          refine LeftL.one 5 rfl (by kernel_rfl) ?_
          go_wp2_with fail
          have hS := HS.out.alloc HS.out.size (Obj.cells #[.int .i64 kind, .int .i64 (x : Int), .int .i64 time, .string by_, .slice pad wh.length pcap, .int .i64 0] 39)
          obtain ⟨wG, hwG⟩ : ∃ V, V = wF.alloc (Obj.cells #[.int .i64 kind, .int .i64 (x : Int), .int .i64 time, .string by_, .slice pad wh.length pcap, .int .i64 0] 39) := ⟨_, rfl⟩
          have hnews : ∀ j u, P[j]? = some u → wG.cell? ((⟨wF.heap.size, 0, none⟩ : Addr).add j) = some u := by rw [hwG, HPP.out]; exact news_alloc wF (prfA ⟨kind, (x : Int), time, by_, wh, 0⟩ pad pcap) 39
          rw [← hwG] at hS ⊢
          first | refine ⟨fun _ => hS, ?_⟩ | refine ⟨hS, ?_⟩
          clear HS
          have HS := Lib.hid hS
          have HNEWS := Lib.hid hnews
          clear hnews hS
          have hsl := HSL.out.alloc (Obj.cells #[.int .i64 kind, .int .i64 (x : Int), .int .i64 time, .string by_, .slice pad wh.length pcap, .int .i64 0] 39)
          rw [← hwG] at hsl
          clear hwG HSL
          have HSL := Lib.hid hsl
          clear hsl
          clear HWE HDC
          refine LeftL.one 6 rfl (by kernel_rfl) ?_
          refine wpList_append_sl _ rfl (.tmp 83) (.tmp 85) 53 rfl 39 i39 _ 6 72 Try.underlying53 HI39.out HY0.out HY1.out HY2.out rfl _ M _ own3 rfl HSL.out ⟨wF.heap.size, 0, none⟩ 1 1 P rfl (by rw [HP6.out]) HNEWS.out HP1.out (by have := HMM.out; unfold maxLen; omega) (by have := HMM.out; omega) ?_
          intro v4 wH own4 hs4 hf4 ho4
          refine wpList_nil ?_
          dsimp only [Act.put]
          obtain ⟨rb, ro, rc, hv4, hown4, hrw4⟩ := Rw.snoc HP6.out HFL.out hs4
          subst hv4
          have hS := HS.out.call hf4 HS.out.size (fun x hx hm => absurd hx (by have e := HOWN.out x (by simpa using hm); omega))
          have hk4l := K4.out.lt
          have hrb : w.heap.size + 2 < rb := by
            rcases ho4 with h | ⟨x, h, hx⟩
            · have := HOWN.out rb (by rw [← h]; exact hown4); omega
            · rw [hown4] at h; cases h; have := HS.out.size; omega
          have k2 := hS.blk K2.out K2.out.lt (by simp)
          have k4 := hS.blk K4.out K4.out.lt (by simp)
          have hf := HF.out.call hS HF.out.size (by simp)
          have c2 := (k2.cell 5).trans HD5.out
          have g2 := k2.free 5
          first | refine ⟨fun _ => hS, ?_⟩ | refine ⟨hS, ?_⟩
          clear hs4 hf4 ho4 hown4 hk4l HS HSL HOWN HNEWS HFX HL39 HRC
          have HS := Lib.hid hS
          have HR4 := Lib.hid hrw4
          have HRB := Lib.hid hrb
          have KK2 := Lib.hid k2
          have KK4 := Lib.hid k4
          have HF4 := Lib.hid hf
          clear hf k4 k2 hrb hrw4 hS
          refine LeftL.one 7 rfl (by kernel_rfl) ?_
          go_wp2_with fail
          first | refine ⟨fun _ => HS.out, ?_⟩ | refine ⟨HS.out, ?_⟩
          refine LeftL.one 8 rfl (by kernel_rfl) ?_
          go_wp2_with fail
          clear c2 g2
          have hfin : Frm w.heap.size [] w (wH.setCell ⟨w.heap.size, 5, none⟩ (.slice (some ⟨rb, ro, none⟩) (M + 1) rc)) ∧ Blk (wH.setCell ⟨w.heap.size, 5, none⟩ (.slice (some ⟨rb, ro, none⟩) (M + 1) rc)) w.heap.size 55 (C.set 5 (.slice (some ⟨rb, ro, none⟩) (M + 1) rc)) ∧ Blk (wH.setCell ⟨w.heap.size, 5, none⟩ (.slice (some ⟨rb, ro, none⟩) (M + 1) rc)) (w.heap.size + 2) 55 zero55 ∧ Rw (wH.setCell ⟨w.heap.size, 5, none⟩ (.slice (some ⟨rb, ro, none⟩) (M + 1) rc)) 6 (some ⟨rb, ro, none⟩) rb ro (M + 1) (fun i => if i < M then f i else P) ∧ w.heap.size + 2 < rb := by
            have g := (Frm.refl wH.heap.size [w.heap.size] wH).setCell (p := ⟨w.heap.size, 5, none⟩) (.inl (by simp)) (.slice (some ⟨rb, ro, none⟩) (M + 1) rc)
            refine ⟨HF4.out.setCell (p := ⟨w.heap.size, 5, none⟩) (.inr (Nat.le_refl _)) _, KK2.out.set 5 _, KK4.out.other ⟨w.heap.size, 5, none⟩ (by show w.heap.size ≠ w.heap.size + 2; omega) _, ?_, HRB.out⟩
            · exact HR4.out.frmS g (by have := HRB.out; simp; omega)
          generalize World.setCell wH _ _ = wI at hfin ⊢
          first | refine ⟨fun h => absurd rfl h, ?_⟩ | skip
          refine LeftL.done (by kernel_rfl) ?_
          clear HS HR4 HRB KK2 KK4 HF4
          have HFIN := Lib.hid hfin
          clear hfin
          go_wp2_with fail
          go_meet
          case rel => exact ⟨rb, ro, rc, HFIN.out⟩
        · go_wp2_with fail
          have hS := HS.out.alloc HS.out.size (Obj.cells #[.int .i64 kind, .int .i64 (x : Int), .int .i64 time, .string by_, .slice pad wh.length pcap, .int .i64 0] 39)
          obtain ⟨wF, hwG⟩ : ∃ V, V = wE.alloc (Obj.cells #[.int .i64 kind, .int .i64 (x : Int), .int .i64 time, .string by_, .slice pad wh.length pcap, .int .i64 0] 39) := ⟨_, rfl⟩
          have hnews : ∀ j u, P[j]? = some u → wF.cell? ((⟨wE.heap.size, 0, none⟩ : Addr).add j) = some u := by rw [hwG, HPP.out]; exact news_alloc wE (prfA ⟨kind, (x : Int), time, by_, wh, 0⟩ pad pcap) 39
          rw [← hwG] at hS ⊢
          first | refine ⟨fun _ => hS, ?_⟩ | refine ⟨hS, ?_⟩
          clear HS
          have HS := Lib.hid hS
          have HNEWS := Lib.hid hnews
          clear hnews hS
          have hsl := HSL.out.alloc (Obj.cells #[.int .i64 kind, .int .i64 (x : Int), .int .i64 time, .string by_, .slice pad wh.length pcap, .int .i64 0] 39)
          rw [← hwG] at hsl
          have hwF : wF.heap.size = wE.heap.size + 1 := by rw [hwG]; simp
          clear hwG HSL
          have HSL := Lib.hid hsl
          clear hsl
          refine LeftL.one 3 rfl (by kernel_rfl) ?_
          have hrA := HRC.out wF HS.out
          refine wpList_append_rw rfl (.tmp 80) (.tmp 82) 53 rfl 39 i39 _ 6 72 Try.underlying53 HI39.out HY0.out HY1.out HY2.out rfl _ 0 [] _ rfl HSL.out m.qa m.qb m.qo M m.qc ((List.range M).flatMap f) rfl hrA.ad (flat_len HFL.out M) (hrA.cells HFL.out (by decide)) HFO.out (by have := HMM.out; unfold maxLen; omega) (by have := HMM.out; omega) ?_
          intro v3 wG own3 hsl hfA hoA
          rw [List.nil_append, Nat.zero_add] at hsl
          refine wpList_nil ?_
          dsimp only [Act.put]
          have hdC := HDC.out
          have hown : ∀ g, own3 = some g → wC.heap.size ≤ g := fun g hg => by
            rcases hoA with h | ⟨x, h, hx⟩
            · rw [hg] at h; cases h; exact hdC
            · rw [hg] at h; cases h; exact Nat.le_trans HS.out.size hx
          have hS := HS.out.call hfA HS.out.size (fun x hx hm => absurd hx (by have e : x = wD.heap.size := (by simpa using hm); omega))
          first | refine ⟨fun _ => hS, ?_⟩ | refine ⟨hS, ?_⟩
          clear HSL HS hoA hrA hdC
          have HS := Lib.hid hS
          have HSL := Lib.hid hsl
          have HOWN := Lib.hid hown
          clear hown hsl hS
          have hnews : ∀ j u, P[j]? = some u → wG.cell? ((⟨wE.heap.size, 0, none⟩ : Addr).add j) = some u := fun j u hj => by
            have hadd : (⟨wE.heap.size, 0, none⟩ : Addr).add j = ⟨wE.heap.size, j, none⟩ := by unfold Addr.add; split <;> simp_all
            have h1 := HNEWS.out j u hj
            rw [hadd] at h1 ⊢
            rw [hfA.cell (p := ⟨wE.heap.size, j, none⟩) (by show wE.heap.size < wF.heap.size; omega) (by rw [HWE.out]; simp)]
            exact h1
          clear HNEWS hfA hwF
          have HNEWS := Lib.hid hnews
          clear hnews
          clear HWE HDC
          refine LeftL.one 6 rfl (by kernel_rfl) ?_
          refine wpList_append_sl _ rfl (.tmp 83) (.tmp 85) 53 rfl 39 i39 _ 6 72 Try.underlying53 HI39.out HY0.out HY1.out HY2.out rfl _ M _ own3 rfl HSL.out ⟨wE.heap.size, 0, none⟩ 1 1 P rfl (by rw [HP6.out]) HNEWS.out HP1.out (by have := HMM.out; unfold maxLen; omega) (by have := HMM.out; omega) ?_
          intro v4 wH own4 hs4 hf4 ho4
          refine wpList_nil ?_
          dsimp only [Act.put]
          obtain ⟨rb, ro, rc, hv4, hown4, hrw4⟩ := Rw.snoc HP6.out HFL.out hs4
          subst hv4
          have hS := HS.out.call hf4 HS.out.size (fun x hx hm => absurd hx (by have e := HOWN.out x (by simpa using hm); omega))
          have hk4l := K4.out.lt
          have hrb : w.heap.size + 2 < rb := by
            rcases ho4 with h | ⟨x, h, hx⟩
            · have := HOWN.out rb (by rw [← h]; exact hown4); omega
            · rw [hown4] at h; cases h; have := HS.out.size; omega
          have k2 := hS.blk K2.out K2.out.lt (by simp)
          have k4 := hS.blk K4.out K4.out.lt (by simp)
          have hf := HF.out.call hS HF.out.size (by simp)
          have c2 := (k2.cell 5).trans HD5.out
          have g2 := k2.free 5
          first | refine ⟨fun _ => hS, ?_⟩ | refine ⟨hS, ?_⟩
          clear hs4 hf4 ho4 hown4 hk4l HS HSL HOWN HNEWS HFX HL39 HRC
          have HS := Lib.hid hS
          have HR4 := Lib.hid hrw4
          have HRB := Lib.hid hrb
          have KK2 := Lib.hid k2
          have KK4 := Lib.hid k4
          have HF4 := Lib.hid hf
          clear hf k4 k2 hrb hrw4 hS
          refine LeftL.one 7 rfl (by kernel_rfl) ?_
          go_wp2_with fail
          first | refine ⟨fun _ => HS.out, ?_⟩ | refine ⟨HS.out, ?_⟩
          refine LeftL.one 8 rfl (by kernel_rfl) ?_
          go_wp2_with fail
          clear c2 g2
          have hfin : Frm w.heap.size [] w (wH.setCell ⟨w.heap.size, 5, none⟩ (.slice (some ⟨rb, ro, none⟩) (M + 1) rc)) ∧ Blk (wH.setCell ⟨w.heap.size, 5, none⟩ (.slice (some ⟨rb, ro, none⟩) (M + 1) rc)) w.heap.size 55 (C.set 5 (.slice (some ⟨rb, ro, none⟩) (M + 1) rc)) ∧ Blk (wH.setCell ⟨w.heap.size, 5, none⟩ (.slice (some ⟨rb, ro, none⟩) (M + 1) rc)) (w.heap.size + 2) 55 zero55 ∧ Rw (wH.setCell ⟨w.heap.size, 5, none⟩ (.slice (some ⟨rb, ro, none⟩) (M + 1) rc)) 6 (some ⟨rb, ro, none⟩) rb ro (M + 1) (fun i => if i < M then f i else P) ∧ w.heap.size + 2 < rb := by
            have g := (Frm.refl wH.heap.size [w.heap.size] wH).setCell (p := ⟨w.heap.size, 5, none⟩) (.inl (by simp)) (.slice (some ⟨rb, ro, none⟩) (M + 1) rc)
            refine ⟨HF4.out.setCell (p := ⟨w.heap.size, 5, none⟩) (.inr (Nat.le_refl _)) _, KK2.out.set 5 _, KK4.out.other ⟨w.heap.size, 5, none⟩ (by show w.heap.size ≠ w.heap.size + 2; omega) _, ?_, HRB.out⟩
            · exact HR4.out.frmS g (by have := HRB.out; simp; omega)
          generalize World.setCell wH _ _ = wI at hfin ⊢
          first | refine ⟨fun h => absurd rfl h, ?_⟩ | skip
          refine LeftL.done (by kernel_rfl) ?_
          clear HS HR4 HRB KK2 KK4 HF4
          have HFIN := Lib.hid hfin
          clear hfin
          go_wp2_with fail
          go_meet
          case rel => exact ⟨rb, ro, rc, HFIN.out⟩
      · go_wp2_with fail
        have hS := HS.out.alloc HS.out.size (Obj.cells #[.int .i64 kind, .int .i64 (x : Int), .int .i64 time, .string by_, .slice pad wh.length pcap, .int .i64 0] 39)
        obtain ⟨wE, hwG⟩ : ∃ V, V = wD.alloc (Obj.cells #[.int .i64 kind, .int .i64 (x : Int), .int .i64 time, .string by_, .slice pad wh.length pcap, .int .i64 0] 39) := ⟨_, rfl⟩
        have hnews : ∀ j u, P[j]? = some u → wE.cell? ((⟨wD.heap.size, 0, none⟩ : Addr).add j) = some u := by rw [hwG, HPP.out]; exact news_alloc wD (prfA ⟨kind, (x : Int), time, by_, wh, 0⟩ pad pcap) 39
        rw [← hwG] at hS ⊢
        first | refine ⟨fun _ => hS, ?_⟩ | refine ⟨hS, ?_⟩
        clear HS
        have HS := Lib.hid hS
        have HNEWS := Lib.hid hnews
        clear hnews hS
        have hwD2 : wE.heap.size = wD.heap.size + 1 := by rw [hwG]; simp
        clear hwG
        have HWD2 := Lib.hid hwD2
        clear hwD2
        refine LeftL.one 0 rfl (by kernel_rfl) ?_
        go_wp2_with fail
        have hS := HS.out.alloc HS.out.size (Obj.cells #[] 39)
        have hsl := sl_buildEmpty wE 39 6
        obtain ⟨wF, hwG⟩ : ∃ V, V = wE.alloc (Obj.cells #[] 39) := ⟨_, rfl⟩
        rw [← hwG] at hS hsl ⊢
        have hwE : wF.heap.size = wE.heap.size + 1 := by rw [hwG]; simp
        have hfE : Frm wE.heap.size [] wE wF := by rw [hwG]; exact (Frm.refl _ _ _).alloc (Nat.le_refl _) _
        first | refine ⟨fun _ => hS, ?_⟩ | refine ⟨hS, ?_⟩
        have hdC := HS.out.size
        clear hwG HS
        have HS := Lib.hid hS
        have HSL := Lib.hid hsl
        have HWE := Lib.hid hwE
        have HDC := Lib.hid hdC
        clear hdC hwE hsl hS
        have hnews : ∀ j u, P[j]? = some u → wF.cell? ((⟨wD.heap.size, 0, none⟩ : Addr).add j) = some u := fun j u hj => by
          have hadd : (⟨wD.heap.size, 0, none⟩ : Addr).add j = ⟨wD.heap.size, j, none⟩ := by unfold Addr.add; split <;> simp_all
          have h1 := HNEWS.out j u hj
          rw [hadd] at h1 ⊢
          rw [hfE.cell (p := ⟨wD.heap.size, j, none⟩) (by have := HWD2.out; show wD.heap.size < wE.heap.size; omega) (by simp)]
          exact h1
        clear HNEWS hfE
        have HNEWS := Lib.hid hnews
        clear hnews
        refine LeftL.one 3 rfl (by kernel_rfl) ?_
        have hrA := HRC.out wF HS.out
        refine wpList_append_rw rfl (.tmp 80) (.tmp 82) 53 rfl 39 i39 _ 6 72 Try.underlying53 HI39.out HY0.out HY1.out HY2.out rfl _ 0 [] _ rfl HSL.out m.qa m.qb m.qo M m.qc ((List.range M).flatMap f) rfl hrA.ad (flat_len HFL.out M) (hrA.cells HFL.out (by decide)) HFO.out (by have := HMM.out; unfold maxLen; omega) (by have := HMM.out; omega) ?_
        intro v3 wG own3 hsl hfA hoA
        rw [List.nil_append, Nat.zero_add] at hsl
        refine wpList_nil ?_
        dsimp only [Act.put]
        have hdC := HDC.out
        have hown : ∀ g, own3 = some g → wC.heap.size ≤ g := fun g hg => by
          rcases hoA with h | ⟨x, h, hx⟩
          · rw [hg] at h; cases h; exact hdC
          · rw [hg] at h; cases h; exact Nat.le_trans HS.out.size hx
        have hS := HS.out.call hfA HS.out.size (fun x hx hm => absurd hx (by have e : x = wE.heap.size := (by simpa using hm); omega))
        first | refine ⟨fun _ => hS, ?_⟩ | refine ⟨hS, ?_⟩
        clear HSL HS hoA hrA hdC
        have HS := Lib.hid hS
        have HSL := Lib.hid hsl
        have HOWN := Lib.hid hown
        clear hown hsl hS
        have hnews : ∀ j u, P[j]? = some u → wG.cell? ((⟨wD.heap.size, 0, none⟩ : Addr).add j) = some u := fun j u hj => by
          have hadd : (⟨wD.heap.size, 0, none⟩ : Addr).add j = ⟨wD.heap.size, j, none⟩ := by unfold Addr.add; split <;> simp_all
          have h1 := HNEWS.out j u hj
          rw [hadd] at h1 ⊢
          rw [hfA.cell (p := ⟨wD.heap.size, j, none⟩) (by have := HWD2.out; have := HWE.out; show wD.heap.size < wF.heap.size; omega) (by have := HWD2.out; simp; omega)]
          exact h1
        clear HNEWS hfA HWD2
        have HNEWS := Lib.hid hnews
        clear hnews
        clear HWE HDC
        refine LeftL.one 6 rfl (by kernel_rfl) ?_
        refine wpList_append_sl _ rfl (.tmp 83) (.tmp 85) 53 rfl 39 i39 _ 6 72 Try.underlying53 HI39.out HY0.out HY1.out HY2.out rfl _ M _ own3 rfl HSL.out ⟨wD.heap.size, 0, none⟩ 1 1 P rfl (by rw [HP6.out]) HNEWS.out HP1.out (by have := HMM.out; unfold maxLen; omega) (by have := HMM.out; omega) ?_
        intro v4 wH own4 hs4 hf4 ho4
        refine wpList_nil ?_
        dsimp only [Act.put]
        obtain ⟨rb, ro, rc, hv4, hown4, hrw4⟩ := Rw.snoc HP6.out HFL.out hs4
        subst hv4
        have hS := HS.out.call hf4 HS.out.size (fun x hx hm => absurd hx (by have e := HOWN.out x (by simpa using hm); omega))
        have hk4l := K4.out.lt
        have hrb : w.heap.size + 2 < rb := by
          rcases ho4 with h | ⟨x, h, hx⟩
          · have := HOWN.out rb (by rw [← h]; exact hown4); omega
          · rw [hown4] at h; cases h; have := HS.out.size; omega
        have k2 := hS.blk K2.out K2.out.lt (by simp)
        have k4 := hS.blk K4.out K4.out.lt (by simp)
        have hf := HF.out.call hS HF.out.size (by simp)
        have c2 := (k2.cell 5).trans HD5.out
        have g2 := k2.free 5
        first | refine ⟨fun _ => hS, ?_⟩ | refine ⟨hS, ?_⟩
        clear hs4 hf4 ho4 hown4 hk4l HS HSL HOWN HNEWS HFX HL39 HRC
        have HS := Lib.hid hS
        have HR4 := Lib.hid hrw4
        have HRB := Lib.hid hrb
        have KK2 := Lib.hid k2
        have KK4 := Lib.hid k4
        have HF4 := Lib.hid hf
        clear hf k4 k2 hrb hrw4 hS
        refine LeftL.one 7 rfl (by kernel_rfl) ?_
        go_wp2_with fail
        first | refine ⟨fun _ => HS.out, ?_⟩ | refine ⟨HS.out, ?_⟩
        refine LeftL.one 8 rfl (by kernel_rfl) ?_
        go_wp2_with fail
        clear c2 g2
        have hfin : Frm w.heap.size [] w (wH.setCell ⟨w.heap.size, 5, none⟩ (.slice (some ⟨rb, ro, none⟩) (M + 1) rc)) ∧ Blk (wH.setCell ⟨w.heap.size, 5, none⟩ (.slice (some ⟨rb, ro, none⟩) (M + 1) rc)) w.heap.size 55 (C.set 5 (.slice (some ⟨rb, ro, none⟩) (M + 1) rc)) ∧ Blk (wH.setCell ⟨w.heap.size, 5, none⟩ (.slice (some ⟨rb, ro, none⟩) (M + 1) rc)) (w.heap.size + 2) 55 zero55 ∧ Rw (wH.setCell ⟨w.heap.size, 5, none⟩ (.slice (some ⟨rb, ro, none⟩) (M + 1) rc)) 6 (some ⟨rb, ro, none⟩) rb ro (M + 1) (fun i => if i < M then f i else P) ∧ w.heap.size + 2 < rb := by
          have g := (Frm.refl wH.heap.size [w.heap.size] wH).setCell (p := ⟨w.heap.size, 5, none⟩) (.inl (by simp)) (.slice (some ⟨rb, ro, none⟩) (M + 1) rc)
          refine ⟨HF4.out.setCell (p := ⟨w.heap.size, 5, none⟩) (.inr (Nat.le_refl _)) _, KK2.out.set 5 _, KK4.out.other ⟨w.heap.size, 5, none⟩ (by show w.heap.size ≠ w.heap.size + 2; omega) _, ?_, HRB.out⟩
          · exact HR4.out.frmS g (by have := HRB.out; simp; omega)
        generalize World.setCell wH _ _ = wI at hfin ⊢
        first | refine ⟨fun h => absurd rfl h, ?_⟩ | skip
        refine LeftL.done (by kernel_rfl) ?_
        clear HS HR4 HRB KK2 KK4 HF4
        have HFIN := Lib.hid hfin
        clear hfin
        go_wp2_with fail
        go_meet
        case rel => exact ⟨rb, ro, rc, HFIN.out⟩
    obtain ⟨rb, ro, rc, hf, k2, k4, hprf, hrb⟩ := hcut
    obtain ⟨wJ, hwJ⟩ : ∃ V, V = wc := ⟨_, rfl⟩
    rw [← hwJ] at hf k2 k4 hprf ⊢
    clear hwJ HRW K2 K3 K4 HF HFO HFL
    obtain ⟨C4, hC4⟩ : ∃ c, c = C.set 5 (.slice (some ⟨rb, ro, none⟩) (M + 1) rc) := ⟨_, rfl⟩
    rw [← hC4] at k2
    have hz64 : C4.length = 6 := by rw [hC4, List.length_set]; exact HZ6.out
    rw [HFF.out, HPP.out] at hprf
    obtain ⟨m', hm'⟩ : ∃ z, z = m.proved M rb ro rc pad b o pcap := ⟨_, rfl⟩
    have hC4e : C4 = refC { s with prf := s.prf ++ [⟨kind, (x : Int), time, by_, wh, 0⟩] } m' := by
      rw [hC4, HC.out, hm']
      exact proved_refC HM.out
    have hone : ∀ u ∈ C4, u.oneCell' = true := by rw [hC4e]; exact refC_one _ _
    clear hC4 HFF
    have K2 := Lib.hid k2
    have K4 := Lib.hid k4
    have HF := Lib.hid hf
    have HPRF := Lib.hid hprf
    have HRB := Lib.hid hrb
    have HZ64 := Lib.hid hz64
    have HC4E := Lib.hid hC4e
    have HONE := Lib.hid hone
    have HM2 := Lib.hid hm'
    clear hm' hone hC4e hz64 hrb hprf hf k4 k2
    go_wp2_with (first | (with_reducible refine atLoad 55 rfl ?_; refine wpList_loadE rfl rfl rfl (load55 K2.out HZ64.out) ?_) | (with_reducible refine atStore 55 rfl ?_; refine stop_ ?_))
    refine go_on ?_
    refine wpList_storeB (P := Try.prog) (cs := C4) rfl rfl K4.out rfl rfl (by rw [HZ64.out]; rfl) (by rw [HZ64.out]; exact info55) HONE.out ?_
    have k4 := K4.out.row C4
    have hnx : RNext w (wJ.setRow (w.heap.size + 2) C4.toArray) s { s with prf := s.prf ++ [⟨kind, (x : Int), time, by_, wh, 0⟩] } m m' (fun S => 0 < wh.length → b ∉ S) := by
      have g := (Frm.refl wJ.heap.size [w.heap.size + 2] wJ).setRow (g := w.heap.size + 2) (.inl (by simp)) C4.toArray
      rw [HM2.out]
      exact RNext.proved HH.out (HF.out.setRow (g := w.heap.size + 2) (.inr (by omega)) C4.toArray) (p := ⟨kind, (x : Int), time, by_, wh, 0⟩) HP.out HM.out (HPRF.out.frmS g (by have := HRB.out; simp; omega)) (by have := HRB.out; omega) HINV.out
    generalize World.setRow wJ _ _ = wN at k4 hnx ⊢
    clear K4 HF HPRF K2
    dsimp only [Act.put]
    have HNX := Lib.hid hnx
    have K4 := Lib.hid k4
    clear k4 hnx
    go_wp2_with fail
    refine bodyPost_ret (results_ct Try.results42 K4.out rfl Try.underlying55 rfl (by rw [HZ64.out]; exact info55)) rfl ?_
    refine ⟨m', ?_, HNX.out⟩
    rw [HC4E.out]
    rfl
end Go.Proofs.Ythgmdilfmeefiaa
