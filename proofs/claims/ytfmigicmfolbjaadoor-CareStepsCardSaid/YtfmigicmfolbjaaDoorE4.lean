/-
  Whether a plan is valid, by the document.
-/
import Derived.Test.YtfmigicmfolbjaaDoorE3
namespace Go.Proofs.YtfmigicmfolbjaaDoor
set_option linter.all false
set_option linter.unusedSimpArgs false
set_option linter.unusedVariables false
open Go.RowKit

theorem numF_bit {F : Nat → Int} : ∀ {k s : Nat} {l : Int}, numF F k = some (s, l) → (∀ f : Nat, s.testBit f = true ↔ ∃ j, j < k ∧ F j = (f : Int)) ∧ ∀ j, j < k → 0 ≤ F j
  | 0, s, l, h => by
    have h : some ((0 : Nat), (-1 : Int)) = some (s, l) := h
    simp at h
    obtain ⟨rfl, rfl⟩ := h
    exact ⟨fun f => ⟨fun h => by simp at h, fun ⟨j, hj, _⟩ => absurd hj (by omega)⟩, fun j hj => absurd hj (by omega)⟩
  | k + 1, s, l, h => by
    unfold numF at h
    split at h
    · cases h
    · rename_i s0 l0 h0
      have ih := numF_bit h0
      have hok := numF_ok h0
      split at h
      · rename_i hin
        have hin := inB_iff.1 hin
        simp at h
        obtain ⟨rfl, rfl⟩ := h
        have hp : 0 ≤ F k := by omega
        refine ⟨fun f => ?_, fun j hj => ?_⟩
        · rw [Nat.testBit_or, Nat.shiftLeft_eq, Nat.one_mul, Nat.testBit_two_pow, Bool.or_eq_true, ih.1 f, decide_eq_true_eq]
          constructor
          · rintro (⟨j, hj, he⟩ | he)
            · exact ⟨j, by omega, he⟩
            · exact ⟨k, by omega, by omega⟩
          · rintro ⟨j, hj, he⟩
            rcases Nat.lt_or_ge j k with h1 | h1
            · exact .inl ⟨j, h1, he⟩
            · obtain rfl : j = k := by omega
              exact .inr (by omega)
        · rcases Nat.lt_or_ge j k with h1 | h1
          · exact ih.2 j h1
          · obtain rfl : j = k := by omega
            exact hp
      · cases h
theorem numL_bit {l : List Int} {s : Nat} (h : numL l = some s) : (∀ f : Nat, s.testBit f = true ↔ ∃ j, j < l.length ∧ l.getD j 0 = (f : Int)) ∧ ∀ j, j < l.length → 0 ≤ l.getD j 0 := by
  unfold numL at h
  rw [Option.map_eq_some_iff] at h
  obtain ⟨⟨s0, l0⟩, h1, rfl⟩ := h
  exact numF_bit h1
theorem inF_iff {F : Nat → Int} {n : Nat} {x : Int} : inF F n x = true ↔ ∃ i, i < n ∧ F i = x := by
  unfold inF
  rw [List.any_eq_true]
  constructor
  · rintro ⟨i, hi, h⟩; exact ⟨i, by simpa using hi, by simpa using h⟩
  · rintro ⟨i, hi, h⟩; exact ⟨i, by simpa using hi, by simpa using h⟩
/-- What a step makes and what it ends is apart, as the document asks. -/
theorem apart_iff {p q : List Int} {b c : Nat} (hb : numL p = some b) (hc : numL q = some c) : b &&& c = 0 ↔ ∀ k, k < p.length → inF (fun i => q.getD i 0) q.length (p.getD k 0) = false := by
  obtain ⟨b1, b2⟩ := numL_bit hb
  obtain ⟨c1, _⟩ := numL_bit hc
  constructor
  · intro h k hk
    cases hi : inF (fun i => q.getD i 0) q.length (p.getD k 0)
    · rfl
    · obtain ⟨j, hj, he⟩ := inF_iff.1 hi
      obtain ⟨f, hf⟩ : ∃ f : Nat, p.getD k 0 = f := ⟨(p.getD k 0).toNat, by have := b2 k hk; omega⟩
      have h1 : b.testBit f = true := (b1 f).2 ⟨k, hk, hf⟩
      have h2 : c.testBit f = true := (c1 f).2 ⟨j, hj, by rw [← hf]; exact he⟩
      have h3 : (b &&& c).testBit f = true := by rw [Nat.testBit_and, h1, h2]; rfl
      rw [h] at h3
      simp at h3
  · intro h
    apply Nat.eq_of_testBit_eq
    intro f
    rw [Nat.zero_testBit, Nat.testBit_and]
    cases h1 : b.testBit f
    · rfl
    · cases h2 : c.testBit f
      · rfl
      · obtain ⟨k, hk, hf⟩ := (b1 f).1 h1
        obtain ⟨j, hj, he⟩ := (c1 f).1 h2
        have := h k hk
        rw [inF_iff.2 ⟨j, hj, by rw [hf]; exact he⟩] at this
        cases this
theorem step_yes {r : RS} {a b c : Nat} (h1 : numL r.need = some a) (h2 : numL r.add = some b) (h3 : numL r.ends = some c) (h : ∀ k, k < r.add.length → inF (fun i => r.ends.getD i 0) r.ends.length (r.add.getD k 0) = false) : (stepO r).isSome = true := by
  rw [stepO_some h1 h2 h3 ((apart_iff h2 h3).2 h)]; rfl
theorem step_no {r : RS} {a b c k : Nat} (h1 : numL r.need = some a) (h2 : numL r.add = some b) (h3 : numL r.ends = some c) (hk : k < r.add.length) (h : inF (fun i => r.ends.getD i 0) r.ends.length (r.add.getD k 0) = true) : stepO r = none := by
  refine stepO_both h1 h2 h3 fun e => ?_
  have := (apart_iff h2 h3).1 e k hk
  rw [h] at this
  cases this
set_option maxRecDepth 100000 in
set_option maxHeartbeats 16000000 in
theorem refCheck_any (q : RPos) (R : Raw) (w : World) (hr : RawAt w q R) : Calls Tryd.prog 33 #[.agg (rawC q R).toArray] w fun e w' => e = .returned (.bool (plannedO R).isSome) ∧ Frm w.heap.size [] w w' := by
  have hf0 := Tryd.func33
  obtain ⟨n, hn⟩ : ∃ n, n = R.steps.length := ⟨_, rfl⟩
  obtain ⟨m, hm⟩ : ∃ n, n = R.edges.length := ⟨_, rfl⟩
  obtain ⟨res, hrs⟩ : ∃ r, r = (plannedO R).isSome := ⟨_, rfl⟩
  have hraw : rawC q R = [q.s.v R.starts, .slice q.sa n q.sc, .slice q.ea m q.ec] := by rw [hn, hm]; rfl
  rw [hraw, ← hrs]
  clear hraw
  have hno : plannedO R = none → res = false := fun h => by rw [hrs, h]; rfl
  have HR := Lib.hid hr
  have HN := Lib.hid hn
  have HM := Lib.hid hm
  have HRS := Lib.hid hrs
  have HNO := Lib.hid hno
  clear hno hrs hm hn hr
  go_enter Tryd.func33, Tryd.ntmps33
  go_upto_region 1 with fail
  refine namedC ?_; intro W hW
  obtain ⟨c, hc⟩ : ∃ c, c = w.heap.size := ⟨_, rfl⟩
  have k0 : Blk W c 66 [q.s.v R.starts, .slice q.sa n q.sc, .slice q.ea m q.ec] := by rw [hW, hc]; exact Blk.new w 66 [q.s.v R.starts, .slice q.sa n q.sc, .slice q.ea m q.ec]
  have hf : Frm w.heap.size [] w W := by rw [hW]; repeat (first | with_reducible exact Frm.refl _ _ _ | with_reducible refine Frm.drewN ?_ | with_reducible refine Frm.drew ?_ | ((with_reducible refine Frm.setCell' ?_ ?_); · first | (left; simp; done) | (right; simp; done) | (right; simp; omega)) | ((with_reducible refine Frm.alloc' ?_ ?_); · first | exact Nat.le_refl _ | (simp; done) | (simp; omega)))
  clear hW hf0
  rw [← hc]
  have c0 : W.cell? ⟨c, 0, none⟩ = some (q.s.v R.starts) := k0.cell 0
  have K0 := Lib.hid k0
  have HF := Lib.hid hf
  have HC := Lib.hid hc
  clear hc hf k0
  go_wp2_with fail
  refine (facts_any q.s R.starts _ (Rw.frm HR.out.starts HF.out (Nat.le_refl _))).mono ?_; rintro e W1 ⟨rfl, hf1⟩
  have k0 := hf1.blk K0.out K0.out.lt (by simp)
  have hf := HF.out.call hf1 HF.out.size (by simp)
  clear hf1 K0 HF c0
  have c1 : W1.cell? ⟨c, 1, none⟩ = some (.slice q.sa n q.sc) := k0.cell 1
  have c2 : W1.cell? ⟨c, 2, none⟩ = some (.slice q.ea m q.ec) := k0.cell 2
  have K0 := Lib.hid k0
  have HF := Lib.hid hf
  clear hf k0
  cases hst : numL R.starts with
  | none =>
    have hres := HNO.out (plannedO_n1 hst)
    subst hres
    have HST := Lib.hid hst
    clear hst
    go_wp2_with fail
    go_ret
    exact ⟨rfl, HF.out⟩
  | some st =>
  by_cases h12 : 12 < n
  · have h12' : (12 : Int) < (n : Int) := by omega
    have hres := HNO.out (plannedO_n2 (.inl (by have := HN.out; omega)))
    subst hres
    have HST := Lib.hid hst
    clear hst
    go_wp2_with fail
    go_ret
    exact ⟨rfl, HF.out⟩
  have h12' : ¬ (12 : Int) < (n : Int) := by omega
  by_cases h100 : 100 < m
  · have h100' : (100 : Int) < (m : Int) := by omega
    have hres := HNO.out (plannedO_n2 (.inr (by have := HM.out; omega)))
    subst hres
    have HST := Lib.hid hst
    clear hst
    go_wp2_with fail
    go_ret
    exact ⟨rfl, HF.out⟩
  have h100' : ¬ (100 : Int) < (m : Int) := by omega
  have HST := Lib.hid hst
  clear hst
  go_upto_region 3 with fail
  clear h12' h100' c1 c2
  have hlen : n ≤ maxLen := by unfold maxLen; omega
  have H12 := Lib.hid h12
  have H100 := Lib.hid h100
  clear h100 h12
  obtain ⟨W, hWn⟩ : ∃ W, W = W1 := ⟨_, rfl⟩
  rw [← hWn] at HF K0 ⊢
  clear hWn
  go_wp2_with fail
  -- the steps
  go_loopw [3] (fun s3 wr => ∃ k : Nat, s3 = .int .i64 k ∧ k ≤ n ∧ (∀ i, i < k → (stepO (R.steps.getD i rs0)).isSome = true) ∧ Frm W.heap.size [] W wr) (fun s3 _ => n - (intOf s3).toNat)
  case atStart => exact ⟨0, rfl, Nat.zero_le _, fun i hi => absurd hi (by omega), Frm.refl _ _ _⟩
  case round =>
    obtain ⟨k, rfl, hk, hall, hfr⟩ := hrel
    have k1 := hfr.blk K0.out K0.out.lt (by simp)
    have c1 : wr.cell? ⟨c, 1, none⟩ = some (.slice q.sa n q.sc) := k1.cell 1
    have hfw := HF.out.call hfr HF.out.size (by simp)
    by_cases hkn : k < n
    · have hkn' : (k : Int) < (n : Int) := by omega
      have hkR : k < R.steps.length := by have := HN.out; omega
      obtain ⟨w4, w5⟩ := wrapUp hkn hlen
      have hms := meas_up hkn
      obtain ⟨r, hr⟩ : ∃ r, r = R.steps.getD k rs0 := ⟨_, rfl⟩
      obtain ⟨x, hx⟩ : ∃ x, x = q.X k := ⟨_, rfl⟩
      have hst := HR.out.steps.frm hfw (Nat.le_refl _)
      have had := hst.row.ad (by omega)
      rw [had] at c1
      have hlo : (loadVar 75 ⟨q.sb, q.so + k * 3, none⟩).run Tryd.prog wr = .ok (.agg (stepC x r).toArray) wr := by
        rw [hx, hr]
        exact hst.row.load (P := Tryd.prog) Tryd.underlying75 rfl hkR info75
      have hea : StepAt w x r := by rw [hx, hr]; exact HR.out.steps.each k hkR
      have hnos : stepO r = none → res = false := fun h => HNO.out (plannedO_n3 (steps_none hkR (by rw [← hr]; exact h)))
      clear hst k1
      have HALL := Lib.hid hall
      have HFR := Lib.hid hfr
      have HFW := Lib.hid hfw
      have HKN := Lib.hid hkn
      have HKR := Lib.hid hkR
      have HMS := Lib.hid hms
      have HRR := Lib.hid hr
      have HX := Lib.hid hx
      have HLO := Lib.hid hlo
      have HEA := Lib.hid hea
      have HAD := Lib.hid had
      have HNOS := Lib.hid hnos
      clear hnos had hea hlo hx hr hms hkR hkn hfw hfr hall
      go_wp2_with (first | (with_reducible refine atLoad 75 rfl ?_; refine wpList_loadE rfl rfl rfl HLO.out ?_) | (with_reducible refine atStore 75 rfl ?_; refine stop_ ?_))
      refine go_on ?_
      refine wpList_storeNew (P := Tryd.prog) (cs := stepC x r) rfl rfl rfl rfl rfl info75 (by simp [stepC, LI.v, Value.oneCell']) ?_
      intro V1 hf1 k1 hz1
      obtain ⟨p, hp⟩ : ∃ q, q = wr.heap.size := ⟨_, rfl⟩
      have hfr := HFR.out.call hf1 HFR.out.size (by simp)
      have hfw := HFW.out.call hf1 HFW.out.size (by simp)
      rw [← hp] at k1 ⊢
      have d0 : V1.cell? ⟨p, 0, none⟩ = some (x.need.v r.need) := k1.cell 0
      clear hf1 hz1 hp HFR HFW HLO c1
      have HFR := Lib.hid hfr
      have HFW := Lib.hid hfw
      have K1 := Lib.hid k1
      clear k1 hfw hfr
      dsimp only [Act.put]
      go_wp2_with fail
      refine (facts_any x.need r.need _ (Rw.frm HEA.out.need HFW.out (Nat.le_refl _))).mono ?_; rintro e V2 ⟨rfl, hf1⟩
      clear d0
      have hfr := HFR.out.call hf1 HFR.out.size (by simp)
      have hfw := HFW.out.call hf1 HFW.out.size (by simp)
      have k1 := hf1.blk K1.out K1.out.lt (by simp)
      clear hf1 HFR HFW K1
      have HFR := Lib.hid hfr
      have HFW := Lib.hid hfw
      have K1 := Lib.hid k1
      clear k1 hfw hfr
      cases h1 : numL r.need with
      | none =>
        have hres := HNOS.out (stepO_n1 h1)
        subst hres
        clear h1
        go_wp2_with fail
        go_ret
        exact ⟨rfl, HFW.out⟩
      | some na =>
      have d1 : V2.cell? ⟨p, 1, none⟩ = some (x.add.v r.add) := K1.out.cell 1
      have HN1 := Lib.hid h1
      clear h1
      go_wp2_with fail
      refine (facts_any x.add r.add _ (Rw.frm HEA.out.add HFW.out (Nat.le_refl _))).mono ?_; rintro e V3 ⟨rfl, hf1⟩
      clear d1
      have hfr := HFR.out.call hf1 HFR.out.size (by simp)
      have hfw := HFW.out.call hf1 HFW.out.size (by simp)
      have k1 := hf1.blk K1.out K1.out.lt (by simp)
      clear hf1 HFR HFW K1
      have HFR := Lib.hid hfr
      have HFW := Lib.hid hfw
      have K1 := Lib.hid k1
      clear k1 hfw hfr
      cases h2 : numL r.add with
      | none =>
        have hres := HNOS.out (stepO_n2 h2)
        subst hres
        clear h2
        go_wp2_with fail
        go_ret
        exact ⟨rfl, HFW.out⟩
      | some nb =>
      have d2 : V3.cell? ⟨p, 2, none⟩ = some (x.ends.v r.ends) := K1.out.cell 2
      have HN2 := Lib.hid h2
      clear h2
      go_wp2_with fail
      refine (facts_any x.ends r.ends _ (Rw.frm HEA.out.ends HFW.out (Nat.le_refl _))).mono ?_; rintro e V4 ⟨rfl, hf1⟩
      clear d2
      have hfr := HFR.out.call hf1 HFR.out.size (by simp)
      have hfw := HFW.out.call hf1 HFW.out.size (by simp)
      have k1 := hf1.blk K1.out K1.out.lt (by simp)
      clear hf1 HFR HFW K1
      have HFR := Lib.hid hfr
      have HFW := Lib.hid hfw
      have K1 := Lib.hid k1
      clear k1 hfw hfr
      cases h3 : numL r.ends with
      | none =>
        have hres := HNOS.out (stepO_n3 h3)
        subst hres
        clear h3
        go_wp2_with fail
        go_ret
        exact ⟨rfl, HFW.out⟩
      | some nc =>
      have HN3 := Lib.hid h3
      clear h3
      obtain ⟨la, hla⟩ : ∃ l, l = r.add.length := ⟨_, rfl⟩
      obtain ⟨le, hle⟩ : ∃ l, l = r.ends.length := ⟨_, rfl⟩
      have hva : x.add.v r.add = .slice x.add.ad la x.add.cap := by rw [hla]; rfl
      have hve : x.ends.v r.ends = .slice x.ends.ad le x.ends.cap := by rw [hle]; rfl
      obtain ⟨Fe, hFe⟩ : ∃ F : Nat → Int, F = fun i => r.ends.getD i 0 := ⟨_, rfl⟩
      have hlla : la ≤ maxLen := by rw [hla]; exact HEA.out.add.len
      have HLA := Lib.hid hla
      have HLE := Lib.hid hle
      have HVA := Lib.hid hva
      have HVE := Lib.hid hve
      have HFE := Lib.hid hFe
      clear hFe hve hva hle hla
      go_wp2_with fail
      -- what it makes
      go_loopw [5] (fun s5 wr => ∃ j : Nat, s5 = .int .i64 j ∧ j ≤ la ∧ (∀ i, i < j → inF Fe le (r.add.getD i 0) = false) ∧ Frm V4.heap.size [] V4 wr) (fun s5 _ => la - (intOf s5).toNat)
      case atStart => exact ⟨0, rfl, Nat.zero_le _, fun i hi => absurd hi (by omega), Frm.refl _ _ _⟩
      case round =>
        obtain ⟨j, rfl, hj, hno, hfj⟩ := hrel
        have k2 := hfj.blk K1.out K1.out.lt (by simp)
        have e1 : wr.cell? ⟨p, 1, none⟩ = some (.slice x.add.ad la x.add.cap) := by rw [← HVA.out]; exact k2.cell 1
        have e2 : wr.cell? ⟨p, 2, none⟩ = some (.slice x.ends.ad le x.ends.cap) := by rw [← HVE.out]; exact k2.cell 2
        by_cases hja : j < la
        · have hja' : (j : Int) < (la : Int) := by omega
          obtain ⟨y4, y5⟩ := wrapUp hja hlla
          have hms2 := meas_up hja
          have hfwj := HFW.out.call hfj HFW.out.size (by simp)
          have hra : RwI wr x.add.ad x.add.b x.add.off la (fun i => r.add.getD i 0) := by rw [HLA.out]; exact Rw.frm HEA.out.add hfwj (Nat.le_refl _)
          have hre : ∀ V, Frm wr.heap.size [] wr V → RwI V x.ends.ad x.ends.b x.ends.off le Fe := fun V hV => by rw [HLE.out, HFE.out]; exact Rw.frm HEA.out.ends (hfwj.call hV hfwj.size (by simp)) (Nat.le_refl _)
          have hada := hra.ad (by omega)
          obtain ⟨z, hz⟩ : ∃ z, z = r.add.getD j 0 := ⟨_, rfl⟩
          have hfx : ∀ V, Frm wr.heap.size [] wr V → V.cell? ⟨p, 1, none⟩ = some (.slice (some ⟨x.add.b, x.add.off, none⟩) la x.add.cap) ∧ V.cell? ⟨p, 2, none⟩ = some (.slice x.ends.ad le x.ends.cap) ∧ V.cell? ⟨x.add.b, x.add.off + j, none⟩ = some (.int .i64 z) := fun V hV => by
            have k3 := hV.blk k2 k2.lt (by simp)
            refine ⟨?_, ?_, ?_⟩
            · rw [← hada, ← HVA.out]; exact k3.cell 1
            · rw [← HVE.out]; exact k3.cell 2
            · rw [hz]; exact (hra.frm hV (Nat.le_refl _)).cellI hja
          obtain ⟨bb, hbb⟩ : ∃ b, b = inF Fe le z := ⟨_, rfl⟩
          clear k2 hra hada
          have HNJ := Lib.hid hno
          have HFJ := Lib.hid hfj
          have HJA := Lib.hid hja
          have HMS2 := Lib.hid hms2
          have HFWJ := Lib.hid hfwj
          have HRE := Lib.hid hre
          have HZ := Lib.hid hz
          have HFX := Lib.hid hfx
          have HBB := Lib.hid hbb
          clear hbb hfx hz hre hfwj hms2 hja hfj hno
          go_upto_region 12 with fail
          clear e1 e2
          refine wp_region_leftL (fun V => Frm wr.heap.size [] wr V) 1000 (by kernel_rfl) ?_
          have hS : Frm wr.heap.size [] wr wr.drew := (Frm.refl _ _ wr).drew
          have HS := Lib.hid hS
          clear hS
          first | ((first | refine LeftL.tkF (v := ?_) 0 rfl HS.out ?_ ?_ | refine LeftL.tkG (v := ?_) 0 rfl HS.out ?_ ?_); rotate_left; (· intro V hV; obtain ⟨q0, q1, q2⟩ := HFX.out V hV; clear hV; go_simp; rfl)) | refine LeftL.tkN 0 rfl HS.out ?_
          (intro K' hK'; go_simp; refine hK' _ ?_; clear hK' K')
          first | ((first | refine LeftL.tkF (v := ?_) 1 rfl HS.out ?_ ?_ | refine LeftL.tkG (v := ?_) 1 rfl HS.out ?_ ?_); rotate_left; (· intro V hV; obtain ⟨q0, q1, q2⟩ := HFX.out V hV; clear hV; go_simp; rfl)) | refine LeftL.tkN 1 rfl HS.out ?_
          (intro K' hK'; go_simp; refine hK' _ ?_; clear hK' K')
          first | ((first | refine LeftL.tkF (v := ?_) 2 rfl HS.out ?_ ?_ | refine LeftL.tkG (v := ?_) 2 rfl HS.out ?_ ?_); rotate_left; (· intro V hV; obtain ⟨q0, q1, q2⟩ := HFX.out V hV; clear hV; go_simp; rfl)) | refine LeftL.tkN 2 rfl HS.out ?_
          (intro K' hK'; go_simp; refine hK' _ ?_; clear hK' K')
          first | ((first | refine LeftL.tkF (v := ?_) 3 rfl HS.out ?_ ?_ | refine LeftL.tkG (v := ?_) 3 rfl HS.out ?_ ?_); rotate_left; (· intro V hV; obtain ⟨q0, q1, q2⟩ := HFX.out V hV; clear hV; go_simp; rfl)) | refine LeftL.tkN 3 rfl HS.out ?_
          (intro K' hK'; go_simp; refine hK' _ ?_; clear hK' K')
          first | ((first | refine LeftL.tkF (v := ?_) 4 rfl HS.out ?_ ?_ | refine LeftL.tkG (v := ?_) 4 rfl HS.out ?_ ?_); rotate_left; (· intro V hV; obtain ⟨q0, q1, q2⟩ := HFX.out V hV; clear hV; go_simp; rfl)) | refine LeftL.tkN 4 rfl HS.out ?_
          (intro K' hK'; go_simp; refine hK' _ ?_; clear hK' K')
          first | ((first | refine LeftL.tkF (v := ?_) 5 rfl HS.out ?_ ?_ | refine LeftL.tkG (v := ?_) 5 rfl HS.out ?_ ?_); rotate_left; (· intro V hV; obtain ⟨q0, q1, q2⟩ := HFX.out V hV; clear hV; go_simp; rfl)) | refine LeftL.tkN 5 rfl HS.out ?_
          (intro K' hK'; go_simp; refine hK' _ ?_; clear hK' K')
          first | ((first | refine LeftL.tkF (v := ?_) 6 rfl HS.out ?_ ?_ | refine LeftL.tkG (v := ?_) 6 rfl HS.out ?_ ?_); rotate_left; (· intro V hV; obtain ⟨q0, q1, q2⟩ := HFX.out V hV; clear hV; go_simp; rfl)) | refine LeftL.tkN 6 rfl HS.out ?_
          (intro K' hK'; go_simp; refine hK' _ ?_; clear hK' K')
          refine LeftL.one 7 rfl (by kernel_rfl) ?_
          go_wp2_with fail
          refine (has_any x.ends.ad x.ends.b x.ends.off le x.ends.cap Fe z _ (HRE.out _ HS.out)).mono ?_; rintro e w1 ⟨rfl, hf1⟩
          have hS1 := HS.out.call hf1 HS.out.size (by simp)
          clear hf1 HS
          have HS := Lib.hid hS1
          clear hS1
          rw [← HBB.out]
          go_wp2_with fail
          first | refine ⟨fun _ => HS.out, ?_⟩ | refine ⟨HS.out, ?_⟩
          refine LeftL.done (by kernel_rfl) ?_
          have hfj := HFJ.out.call HS.out HFJ.out.size (by simp)
          clear HFJ HFX HS HRE
          cases bb
          · have hno2 : ∀ i, i < j + 1 → inF Fe le (r.add.getD i 0) = false := fun i hi => by
              rcases Nat.lt_or_ge i j with h | h
              · exact HNJ.out i h
              · obtain rfl : i = j := by omega
                rw [← HZ.out]; exact HBB.out.symm
            have HFJ := Lib.hid hfj
            have HNO2 := Lib.hid hno2
            clear hno2 hfj
            go_wp2_with fail
            (try simp only [y4, y5])
            exact ⟨⟨j + 1, by simp, HJA.out, HNO2.out, HFJ.out⟩, HMS2.out⟩
          · have hres := HNOS.out (step_no HN1.out HN2.out HN3.out (k := j) (by have := HJA.out; have := HLA.out; omega) (by rw [← HFE.out, ← HLE.out, ← HZ.out]; exact HBB.out.symm))
            subst hres
            have HFJ := Lib.hid hfj
            clear hfj
            go_wp2_with fail
            go_ret
            exact ⟨rfl, HFW.out.call HFJ.out HFW.out.size (by simp)⟩
        · have hja' : ¬ (j : Int) < (la : Int) := by omega
          obtain rfl : j = la := by omega
          have hsy : (stepO r).isSome = true := step_yes HN1.out HN2.out HN3.out (by rw [← HFE.out, ← HLE.out, ← HLA.out]; exact hno)
          have hall2 : ∀ i, i < k + 1 → (stepO (R.steps.getD i rs0)).isSome = true := fun i hi => by
            rcases Nat.lt_or_ge i k with h | h
            · exact HALL.out i h
            · obtain rfl : i = k := by omega
              rw [← HRR.out]; exact hsy
          have hfr2 := HFR.out.call hfj HFR.out.size (by simp)
          clear hno k2 e2 hfj
          have HALL2 := Lib.hid hall2
          have HFR2 := Lib.hid hfr2
          clear hfr2 hall2
          go_wp2_with fail
          (try simp only [w4, w5])
          exact ⟨⟨k + 1, by simp, HKN.out, HALL2.out, HFR2.out⟩, HMS.out⟩
    · have hkn' : ¬ (k : Int) < (n : Int) := by omega
      obtain rfl : k = n := by omega
      have hss : stepsO R.steps = some (R.steps.map tripleOf) := steps_all fun i hi => hall i (by have := HN.out; omega)
      have hfw := HF.out.call hfr HF.out.size (by simp)
      have hlm : m ≤ maxLen := by have := H100.out; unfold maxLen; omega
      have k1 := hfr.blk K0.out K0.out.lt (by simp)
      obtain ⟨nm, hnm⟩ : ∃ x : Int, x = (k : Int) - 1 := ⟨_, rfl⟩
      have hnw : IntKind.i64.wrap ((k : Int) - 1) = nm := by rw [hnm]; exact IntWalk.i64_in _ (by unfold maxLen at *; omega)
      obtain ⟨V1, hV1⟩ : ∃ V, V = wr := ⟨_, rfl⟩
      rw [← hV1] at hfw k1 c1 ⊢
      have hr1 := HR.out.frm hfw (Nat.le_refl _)
      clear hV1 hall hfr HF K0 hk
      have hf := hfw
      clear hfw
      have HSS := Lib.hid hss
      have HF := Lib.hid hf
      have K0 := Lib.hid k1
      have HNM := Lib.hid hnm
      have HR1 := Lib.hid hr1
      clear hr1 hnm k1 hf hss
      go_wp2_with fail
      clear c1
      -- the orders
      go_loopw [6] (fun s6 wr => ∃ j : Nat, s6 = .int .i64 j ∧ j ≤ m ∧ (∃ f : Nat → Nat, (R.edges.take j).foldl (edgeO k) (some fun _ => 0) = some f) ∧ Frm V1.heap.size [] V1 wr) (fun s6 _ => m - (intOf s6).toNat)
      case atStart => exact ⟨0, rfl, Nat.zero_le _, ⟨_, rfl⟩, Frm.refl _ _ _⟩
      case round =>
        obtain ⟨j, rfl, hj, ⟨f, hfd⟩, hfr⟩ := hrel
        have k1 := hfr.blk K0.out K0.out.lt (by simp)
        have c2 : wr.cell? ⟨c, 2, none⟩ = some (.slice q.ea m q.ec) := k1.cell 2
        by_cases hjm : j < m
        · have hjm' : (j : Int) < (m : Int) := by omega
          have hjR : j < R.edges.length := by have := HM.out; omega
          obtain ⟨w4, w5⟩ := wrapUp hjm hlm
          have hms := meas_up hjm
          obtain ⟨e, he⟩ : ∃ r, r = R.edges.getD j (0, 0) := ⟨_, rfl⟩
          obtain ⟨A, C⟩ := e
          have hnx := edges_next (n := k) hjR he
          rw [hfd] at hnx
          have had : q.ea = some ⟨q.eb, q.eo, none⟩ := HR1.out.edges.ad (by omega)
          have hfx : ∀ V, Frm wr.heap.size [] wr V → V.cell? ⟨q.eb, q.eo + j * 2, none⟩ = some (.int .i64 A) ∧ V.cell? ⟨q.eb, q.eo + j * 2 + 1, none⟩ = some (.int .i64 C) ∧ V.cell? ⟨c, 1, none⟩ = some (.slice q.sa k q.sc) ∧ V.cell? ⟨c, 2, none⟩ = some (.slice (some ⟨q.eb, q.eo, none⟩) m q.ec) := fun V hV => by
            have hV2 := hfr.call hV hfr.size (by simp)
            have h1 := HR1.out.edges.frm hV2 (Nat.le_refl _)
            have h2 := hV2.blk K0.out K0.out.lt (by simp)
            have h3 := h1.at_ j hjR 0 _ rfl
            have h4 := h1.at_ j hjR 1 _ rfl
            rw [← he] at h3 h4
            rw [Nat.add_zero] at h3
            exact ⟨h3, h4, h2.cell 1, by rw [← had]; exact h2.cell 2⟩
          obtain ⟨bad, hbad⟩ : ∃ x, x = (!inB A 0 nm || !inB C 0 nm) := ⟨_, rfl⟩
          clear had k1 hfd he
          have HFR := Lib.hid hfr
          have HJM := Lib.hid hjm
          have HJR := Lib.hid hjR
          have HMS := Lib.hid hms
          have HNX := Lib.hid hnx
          have HFX := Lib.hid hfx
          have HBAD := Lib.hid hbad
          clear hbad hfx hnx hms hjR hjm hfr
          have hjmk := HJM.out
          go_upto_region 17 with fail
          clear c2
          go_cut [100] from 75 to 100 (fun s100 w' => s100 = .bool bad ∧ Frm wr.heap.size [] wr w')
          case first =>
            cases b1 : inB A 0 nm
            · refine wp_region_leftL (fun V => Frm wr.heap.size [] wr V) 1000 (by kernel_rfl) ?_
              have hS : Frm wr.heap.size [] wr wr.drew := (Frm.refl _ _ wr).drew
              have HS := Lib.hid hS
              clear hS
              first | ((first | refine LeftL.tkF (v := ?_) 0 rfl HS.out ?_ ?_ | refine LeftL.tkG (v := ?_) 0 rfl HS.out ?_ ?_); rotate_left; (· intro V hV; obtain ⟨q0, q1, q2, q3⟩ := HFX.out V hV; clear hV; go_simp; rfl)) | refine LeftL.tkN 0 rfl HS.out ?_
              (intro K' hK'; go_simp; refine hK' _ ?_; clear hK' K')
              first | ((first | refine LeftL.tkF (v := ?_) 1 rfl HS.out ?_ ?_ | refine LeftL.tkG (v := ?_) 1 rfl HS.out ?_ ?_); rotate_left; (· intro V hV; obtain ⟨q0, q1, q2, q3⟩ := HFX.out V hV; clear hV; go_simp; rfl)) | refine LeftL.tkN 1 rfl HS.out ?_
              (intro K' hK'; go_simp; refine hK' _ ?_; clear hK' K')
              first | ((first | refine LeftL.tkF (v := ?_) 2 rfl HS.out ?_ ?_ | refine LeftL.tkG (v := ?_) 2 rfl HS.out ?_ ?_); rotate_left; (· intro V hV; obtain ⟨q0, q1, q2, q3⟩ := HFX.out V hV; clear hV; go_simp; rfl)) | refine LeftL.tkN 2 rfl HS.out ?_
              (intro K' hK'; go_simp; refine hK' _ ?_; clear hK' K')
              first | ((first | refine LeftL.tkF (v := ?_) 3 rfl HS.out ?_ ?_ | refine LeftL.tkG (v := ?_) 3 rfl HS.out ?_ ?_); rotate_left; (· intro V hV; obtain ⟨q0, q1, q2, q3⟩ := HFX.out V hV; clear hV; go_simp; rfl)) | refine LeftL.tkN 3 rfl HS.out ?_
              (intro K' hK'; go_simp; refine hK' _ ?_; clear hK' K')
              first | ((first | refine LeftL.tkF (v := ?_) 4 rfl HS.out ?_ ?_ | refine LeftL.tkG (v := ?_) 4 rfl HS.out ?_ ?_); rotate_left; (· intro V hV; obtain ⟨q0, q1, q2, q3⟩ := HFX.out V hV; clear hV; go_simp; rfl)) | refine LeftL.tkN 4 rfl HS.out ?_
              (intro K' hK'; go_simp; refine hK' _ ?_; clear hK' K')
              first | ((first | refine LeftL.tkF (v := ?_) 5 rfl HS.out ?_ ?_ | refine LeftL.tkG (v := ?_) 5 rfl HS.out ?_ ?_); rotate_left; (· intro V hV; obtain ⟨q0, q1, q2, q3⟩ := HFX.out V hV; clear hV; go_simp; rfl)) | refine LeftL.tkN 5 rfl HS.out ?_
              (intro K' hK'; go_simp; refine hK' _ ?_; clear hK' K')
              first | ((first | refine LeftL.tkF (v := ?_) 6 rfl HS.out ?_ ?_ | refine LeftL.tkG (v := ?_) 6 rfl HS.out ?_ ?_); rotate_left; (· intro V hV; obtain ⟨q0, q1, q2, q3⟩ := HFX.out V hV; clear hV; go_simp; rfl)) | refine LeftL.tkN 6 rfl HS.out ?_
              (intro K' hK'; go_simp; refine hK' _ ?_; clear hK' K')
              first | ((first | refine LeftL.tkF (v := ?_) 7 rfl HS.out ?_ ?_ | refine LeftL.tkG (v := ?_) 7 rfl HS.out ?_ ?_); rotate_left; (· intro V hV; obtain ⟨q0, q1, q2, q3⟩ := HFX.out V hV; clear hV; go_simp; rfl)) | refine LeftL.tkN 7 rfl HS.out ?_
              (intro K' hK'; go_simp; refine hK' _ ?_; clear hK' K')
              first | ((first | refine LeftL.tkF (v := ?_) 8 rfl HS.out ?_ ?_ | refine LeftL.tkG (v := ?_) 8 rfl HS.out ?_ ?_); rotate_left; (· intro V hV; obtain ⟨q0, q1, q2, q3⟩ := HFX.out V hV; clear hV; go_simp; rfl)) | refine LeftL.tkN 8 rfl HS.out ?_
              (intro K' hK'; go_simp; refine hK' _ ?_; clear hK' K')
              first | ((first | refine LeftL.tkF (v := ?_) 9 rfl HS.out ?_ ?_ | refine LeftL.tkG (v := ?_) 9 rfl HS.out ?_ ?_); rotate_left; (· intro V hV; obtain ⟨q0, q1, q2, q3⟩ := HFX.out V hV; clear hV; go_simp; rfl)) | refine LeftL.tkN 9 rfl HS.out ?_
              (intro K' hK'; go_simp; refine hK' _ ?_; clear hK' K')
              refine LeftL.one 10 rfl (by kernel_rfl) ?_
              go_wp2_with fail
              refine (refin_fr A 0 nm _).mono ?_; rintro e w1 ⟨rfl, hf1⟩
              have hS1 := HS.out.call hf1 HS.out.size (by simp)
              clear hf1 HS
              have HS := Lib.hid hS1
              clear hS1
              rw [b1]
              go_wp2_with fail
              first | refine ⟨fun _ => HS.out, ?_⟩ | refine ⟨HS.out, ?_⟩
              first | ((first | refine LeftL.tkF (v := ?_) 11 rfl HS.out ?_ ?_ | refine LeftL.tkG (v := ?_) 11 rfl HS.out ?_ ?_); rotate_left; (· intro V hV; obtain ⟨q0, q1, q2, q3⟩ := HFX.out V hV; clear hV; go_simp; rfl)) | refine LeftL.tkN 11 rfl HS.out ?_
              (intro K' hK'; go_simp; refine hK' _ ?_; clear hK' K')
              first | ((first | refine LeftL.tkF (v := ?_) 12 rfl HS.out ?_ ?_ | refine LeftL.tkG (v := ?_) 12 rfl HS.out ?_ ?_); rotate_left; (· intro V hV; obtain ⟨q0, q1, q2, q3⟩ := HFX.out V hV; clear hV; go_simp; rfl)) | refine LeftL.tkN 12 rfl HS.out ?_
              (intro K' hK'; go_simp; refine hK' _ ?_; clear hK' K')
              first | ((first | refine LeftL.tkF (v := ?_) 13 rfl HS.out ?_ ?_ | refine LeftL.tkG (v := ?_) 13 rfl HS.out ?_ ?_); rotate_left; (· intro V hV; obtain ⟨q0, q1, q2, q3⟩ := HFX.out V hV; clear hV; go_simp; rfl)) | refine LeftL.tkN 13 rfl HS.out ?_
              (intro K' hK'; go_simp; refine hK' _ ?_; clear hK' K')
              first | ((first | refine LeftL.tkF (v := ?_) 14 rfl HS.out ?_ ?_ | refine LeftL.tkG (v := ?_) 14 rfl HS.out ?_ ?_); rotate_left; (· intro V hV; obtain ⟨q0, q1, q2, q3⟩ := HFX.out V hV; clear hV; go_simp; rfl)) | refine LeftL.tkN 14 rfl HS.out ?_
              (intro K' hK'; go_simp; refine hK' _ ?_; clear hK' K')
              first | ((first | refine LeftL.tkF (v := ?_) 15 rfl HS.out ?_ ?_ | refine LeftL.tkG (v := ?_) 15 rfl HS.out ?_ ?_); rotate_left; (· intro V hV; obtain ⟨q0, q1, q2, q3⟩ := HFX.out V hV; clear hV; go_simp; rfl)) | refine LeftL.tkN 15 rfl HS.out ?_
              (intro K' hK'; go_simp; refine hK' _ ?_; clear hK' K')
              first | ((first | refine LeftL.tkF (v := ?_) 16 rfl HS.out ?_ ?_ | refine LeftL.tkG (v := ?_) 16 rfl HS.out ?_ ?_); rotate_left; (· intro V hV; obtain ⟨q0, q1, q2, q3⟩ := HFX.out V hV; clear hV; go_simp; rfl)) | refine LeftL.tkN 16 rfl HS.out ?_
              (intro K' hK'; go_simp; refine hK' _ ?_; clear hK' K')
              first | ((first | refine LeftL.tkF (v := ?_) 17 rfl HS.out ?_ ?_ | refine LeftL.tkG (v := ?_) 17 rfl HS.out ?_ ?_); rotate_left; (· intro V hV; obtain ⟨q0, q1, q2, q3⟩ := HFX.out V hV; clear hV; go_simp; rfl)) | refine LeftL.tkN 17 rfl HS.out ?_
              (intro K' hK'; go_simp; refine hK' _ ?_; clear hK' K')
              first | ((first | refine LeftL.tkF (v := ?_) 18 rfl HS.out ?_ ?_ | refine LeftL.tkG (v := ?_) 18 rfl HS.out ?_ ?_); rotate_left; (· intro V hV; obtain ⟨q0, q1, q2, q3⟩ := HFX.out V hV; clear hV; go_simp; rfl)) | refine LeftL.tkN 18 rfl HS.out ?_
              (intro K' hK'; go_simp; refine hK' _ ?_; clear hK' K')
              first | ((first | refine LeftL.tkF (v := ?_) 19 rfl HS.out ?_ ?_ | refine LeftL.tkG (v := ?_) 19 rfl HS.out ?_ ?_); rotate_left; (· intro V hV; obtain ⟨q0, q1, q2, q3⟩ := HFX.out V hV; clear hV; go_simp; rfl)) | refine LeftL.tkN 19 rfl HS.out ?_
              (intro K' hK'; go_simp; refine hK' _ ?_; clear hK' K')
              first | ((first | refine LeftL.tkF (v := ?_) 20 rfl HS.out ?_ ?_ | refine LeftL.tkG (v := ?_) 20 rfl HS.out ?_ ?_); rotate_left; (· intro V hV; obtain ⟨q0, q1, q2, q3⟩ := HFX.out V hV; clear hV; go_simp; rfl)) | refine LeftL.tkN 20 rfl HS.out ?_
              (intro K' hK'; go_simp; refine hK' _ ?_; clear hK' K')
              first | ((first | refine LeftL.tkF (v := ?_) 21 rfl HS.out ?_ ?_ | refine LeftL.tkG (v := ?_) 21 rfl HS.out ?_ ?_); rotate_left; (· intro V hV; obtain ⟨q0, q1, q2, q3⟩ := HFX.out V hV; clear hV; go_simp; rfl)) | refine LeftL.tkN 21 rfl HS.out ?_
              (intro K' hK'; go_simp; refine hK' _ ?_; clear hK' K')
              first | ((first | refine LeftL.tkF (v := ?_) 22 rfl HS.out ?_ ?_ | refine LeftL.tkG (v := ?_) 22 rfl HS.out ?_ ?_); rotate_left; (· intro V hV; obtain ⟨q0, q1, q2, q3⟩ := HFX.out V hV; clear hV; go_simp; rfl)) | refine LeftL.tkN 22 rfl HS.out ?_
              (intro K' hK'; go_simp; refine hK' _ ?_; clear hK' K')
              first | ((first | refine LeftL.tkF (v := ?_) 23 rfl HS.out ?_ ?_ | refine LeftL.tkG (v := ?_) 23 rfl HS.out ?_ ?_); rotate_left; (· intro V hV; obtain ⟨q0, q1, q2, q3⟩ := HFX.out V hV; clear hV; go_simp; rfl)) | refine LeftL.tkN 23 rfl HS.out ?_
              (intro K' hK'; go_simp; refine hK' _ ?_; clear hK' K')
              first | ((first | refine LeftL.tkF (v := ?_) 24 rfl HS.out ?_ ?_ | refine LeftL.tkG (v := ?_) 24 rfl HS.out ?_ ?_); rotate_left; (· intro V hV; obtain ⟨q0, q1, q2, q3⟩ := HFX.out V hV; clear hV; go_simp; rfl)) | refine LeftL.tkN 24 rfl HS.out ?_
              (intro K' hK'; go_simp; refine hK' _ ?_; clear hK' K')
              first | ((first | refine LeftL.tkF (v := ?_) 25 rfl HS.out ?_ ?_ | refine LeftL.tkG (v := ?_) 25 rfl HS.out ?_ ?_); rotate_left; (· intro V hV; obtain ⟨q0, q1, q2, q3⟩ := HFX.out V hV; clear hV; go_simp; rfl)) | refine LeftL.tkN 25 rfl HS.out ?_
              (intro K' hK'; go_simp; refine hK' _ ?_; clear hK' K')
              refine LeftL.done (by kernel_rfl) ?_
              go_wp2_with fail
              go_meet
              case rel => exact ⟨by rw [HBAD.out, b1]; rfl, HS.out⟩
            · refine wp_region_leftL (fun V => Frm wr.heap.size [] wr V) 1000 (by kernel_rfl) ?_
              have hS : Frm wr.heap.size [] wr wr.drew := (Frm.refl _ _ wr).drew
              have HS := Lib.hid hS
              clear hS
              first | ((first | refine LeftL.tkF (v := ?_) 0 rfl HS.out ?_ ?_ | refine LeftL.tkG (v := ?_) 0 rfl HS.out ?_ ?_); rotate_left; (· intro V hV; obtain ⟨q0, q1, q2, q3⟩ := HFX.out V hV; clear hV; go_simp; rfl)) | refine LeftL.tkN 0 rfl HS.out ?_
              (intro K' hK'; go_simp; refine hK' _ ?_; clear hK' K')
              first | ((first | refine LeftL.tkF (v := ?_) 1 rfl HS.out ?_ ?_ | refine LeftL.tkG (v := ?_) 1 rfl HS.out ?_ ?_); rotate_left; (· intro V hV; obtain ⟨q0, q1, q2, q3⟩ := HFX.out V hV; clear hV; go_simp; rfl)) | refine LeftL.tkN 1 rfl HS.out ?_
              (intro K' hK'; go_simp; refine hK' _ ?_; clear hK' K')
              first | ((first | refine LeftL.tkF (v := ?_) 2 rfl HS.out ?_ ?_ | refine LeftL.tkG (v := ?_) 2 rfl HS.out ?_ ?_); rotate_left; (· intro V hV; obtain ⟨q0, q1, q2, q3⟩ := HFX.out V hV; clear hV; go_simp; rfl)) | refine LeftL.tkN 2 rfl HS.out ?_
              (intro K' hK'; go_simp; refine hK' _ ?_; clear hK' K')
              first | ((first | refine LeftL.tkF (v := ?_) 3 rfl HS.out ?_ ?_ | refine LeftL.tkG (v := ?_) 3 rfl HS.out ?_ ?_); rotate_left; (· intro V hV; obtain ⟨q0, q1, q2, q3⟩ := HFX.out V hV; clear hV; go_simp; rfl)) | refine LeftL.tkN 3 rfl HS.out ?_
              (intro K' hK'; go_simp; refine hK' _ ?_; clear hK' K')
              first | ((first | refine LeftL.tkF (v := ?_) 4 rfl HS.out ?_ ?_ | refine LeftL.tkG (v := ?_) 4 rfl HS.out ?_ ?_); rotate_left; (· intro V hV; obtain ⟨q0, q1, q2, q3⟩ := HFX.out V hV; clear hV; go_simp; rfl)) | refine LeftL.tkN 4 rfl HS.out ?_
              (intro K' hK'; go_simp; refine hK' _ ?_; clear hK' K')
              first | ((first | refine LeftL.tkF (v := ?_) 5 rfl HS.out ?_ ?_ | refine LeftL.tkG (v := ?_) 5 rfl HS.out ?_ ?_); rotate_left; (· intro V hV; obtain ⟨q0, q1, q2, q3⟩ := HFX.out V hV; clear hV; go_simp; rfl)) | refine LeftL.tkN 5 rfl HS.out ?_
              (intro K' hK'; go_simp; refine hK' _ ?_; clear hK' K')
              first | ((first | refine LeftL.tkF (v := ?_) 6 rfl HS.out ?_ ?_ | refine LeftL.tkG (v := ?_) 6 rfl HS.out ?_ ?_); rotate_left; (· intro V hV; obtain ⟨q0, q1, q2, q3⟩ := HFX.out V hV; clear hV; go_simp; rfl)) | refine LeftL.tkN 6 rfl HS.out ?_
              (intro K' hK'; go_simp; refine hK' _ ?_; clear hK' K')
              first | ((first | refine LeftL.tkF (v := ?_) 7 rfl HS.out ?_ ?_ | refine LeftL.tkG (v := ?_) 7 rfl HS.out ?_ ?_); rotate_left; (· intro V hV; obtain ⟨q0, q1, q2, q3⟩ := HFX.out V hV; clear hV; go_simp; rfl)) | refine LeftL.tkN 7 rfl HS.out ?_
              (intro K' hK'; go_simp; refine hK' _ ?_; clear hK' K')
              first | ((first | refine LeftL.tkF (v := ?_) 8 rfl HS.out ?_ ?_ | refine LeftL.tkG (v := ?_) 8 rfl HS.out ?_ ?_); rotate_left; (· intro V hV; obtain ⟨q0, q1, q2, q3⟩ := HFX.out V hV; clear hV; go_simp; rfl)) | refine LeftL.tkN 8 rfl HS.out ?_
              (intro K' hK'; go_simp; refine hK' _ ?_; clear hK' K')
              first | ((first | refine LeftL.tkF (v := ?_) 9 rfl HS.out ?_ ?_ | refine LeftL.tkG (v := ?_) 9 rfl HS.out ?_ ?_); rotate_left; (· intro V hV; obtain ⟨q0, q1, q2, q3⟩ := HFX.out V hV; clear hV; go_simp; rfl)) | refine LeftL.tkN 9 rfl HS.out ?_
              (intro K' hK'; go_simp; refine hK' _ ?_; clear hK' K')
              refine LeftL.one 10 rfl (by kernel_rfl) ?_
              go_wp2_with fail
              refine (refin_fr A 0 nm _).mono ?_; rintro e w1 ⟨rfl, hf1⟩
              have hS1 := HS.out.call hf1 HS.out.size (by simp)
              clear hf1 HS
              have HS := Lib.hid hS1
              clear hS1
              rw [b1]
              go_wp2_with fail
              first | refine ⟨fun _ => HS.out, ?_⟩ | refine ⟨HS.out, ?_⟩
              first | ((first | refine LeftL.tkF (v := ?_) 11 rfl HS.out ?_ ?_ | refine LeftL.tkG (v := ?_) 11 rfl HS.out ?_ ?_); rotate_left; (· intro V hV; obtain ⟨q0, q1, q2, q3⟩ := HFX.out V hV; clear hV; go_simp; rfl)) | refine LeftL.tkN 11 rfl HS.out ?_
              (intro K' hK'; go_simp; refine hK' _ ?_; clear hK' K')
              first | ((first | refine LeftL.tkF (v := ?_) 12 rfl HS.out ?_ ?_ | refine LeftL.tkG (v := ?_) 12 rfl HS.out ?_ ?_); rotate_left; (· intro V hV; obtain ⟨q0, q1, q2, q3⟩ := HFX.out V hV; clear hV; go_simp; rfl)) | refine LeftL.tkN 12 rfl HS.out ?_
              (intro K' hK'; go_simp; refine hK' _ ?_; clear hK' K')
              first | ((first | refine LeftL.tkF (v := ?_) 13 rfl HS.out ?_ ?_ | refine LeftL.tkG (v := ?_) 13 rfl HS.out ?_ ?_); rotate_left; (· intro V hV; obtain ⟨q0, q1, q2, q3⟩ := HFX.out V hV; clear hV; go_simp; rfl)) | refine LeftL.tkN 13 rfl HS.out ?_
              (intro K' hK'; go_simp; refine hK' _ ?_; clear hK' K')
              first | ((first | refine LeftL.tkF (v := ?_) 14 rfl HS.out ?_ ?_ | refine LeftL.tkG (v := ?_) 14 rfl HS.out ?_ ?_); rotate_left; (· intro V hV; obtain ⟨q0, q1, q2, q3⟩ := HFX.out V hV; clear hV; go_simp; rfl)) | refine LeftL.tkN 14 rfl HS.out ?_
              (intro K' hK'; go_simp; refine hK' _ ?_; clear hK' K')
              first | ((first | refine LeftL.tkF (v := ?_) 15 rfl HS.out ?_ ?_ | refine LeftL.tkG (v := ?_) 15 rfl HS.out ?_ ?_); rotate_left; (· intro V hV; obtain ⟨q0, q1, q2, q3⟩ := HFX.out V hV; clear hV; go_simp; rfl)) | refine LeftL.tkN 15 rfl HS.out ?_
              (intro K' hK'; go_simp; refine hK' _ ?_; clear hK' K')
              first | ((first | refine LeftL.tkF (v := ?_) 16 rfl HS.out ?_ ?_ | refine LeftL.tkG (v := ?_) 16 rfl HS.out ?_ ?_); rotate_left; (· intro V hV; obtain ⟨q0, q1, q2, q3⟩ := HFX.out V hV; clear hV; go_simp; rfl)) | refine LeftL.tkN 16 rfl HS.out ?_
              (intro K' hK'; go_simp; refine hK' _ ?_; clear hK' K')
              first | ((first | refine LeftL.tkF (v := ?_) 17 rfl HS.out ?_ ?_ | refine LeftL.tkG (v := ?_) 17 rfl HS.out ?_ ?_); rotate_left; (· intro V hV; obtain ⟨q0, q1, q2, q3⟩ := HFX.out V hV; clear hV; go_simp; rfl)) | refine LeftL.tkN 17 rfl HS.out ?_
              (intro K' hK'; go_simp; refine hK' _ ?_; clear hK' K')
              first | ((first | refine LeftL.tkF (v := ?_) 18 rfl HS.out ?_ ?_ | refine LeftL.tkG (v := ?_) 18 rfl HS.out ?_ ?_); rotate_left; (· intro V hV; obtain ⟨q0, q1, q2, q3⟩ := HFX.out V hV; clear hV; go_simp; rfl)) | refine LeftL.tkN 18 rfl HS.out ?_
              (intro K' hK'; go_simp; refine hK' _ ?_; clear hK' K')
              first | ((first | refine LeftL.tkF (v := ?_) 19 rfl HS.out ?_ ?_ | refine LeftL.tkG (v := ?_) 19 rfl HS.out ?_ ?_); rotate_left; (· intro V hV; obtain ⟨q0, q1, q2, q3⟩ := HFX.out V hV; clear hV; go_simp; rfl)) | refine LeftL.tkN 19 rfl HS.out ?_
              (intro K' hK'; go_simp; refine hK' _ ?_; clear hK' K')
              first | ((first | refine LeftL.tkF (v := ?_) 20 rfl HS.out ?_ ?_ | refine LeftL.tkG (v := ?_) 20 rfl HS.out ?_ ?_); rotate_left; (· intro V hV; obtain ⟨q0, q1, q2, q3⟩ := HFX.out V hV; clear hV; go_simp; rfl)) | refine LeftL.tkN 20 rfl HS.out ?_
              (intro K' hK'; go_simp; refine hK' _ ?_; clear hK' K')
              first | ((first | refine LeftL.tkF (v := ?_) 21 rfl HS.out ?_ ?_ | refine LeftL.tkG (v := ?_) 21 rfl HS.out ?_ ?_); rotate_left; (· intro V hV; obtain ⟨q0, q1, q2, q3⟩ := HFX.out V hV; clear hV; go_simp; rfl)) | refine LeftL.tkN 21 rfl HS.out ?_
              (intro K' hK'; go_simp; refine hK' _ ?_; clear hK' K')
              first | ((first | refine LeftL.tkF (v := ?_) 22 rfl HS.out ?_ ?_ | refine LeftL.tkG (v := ?_) 22 rfl HS.out ?_ ?_); rotate_left; (· intro V hV; obtain ⟨q0, q1, q2, q3⟩ := HFX.out V hV; clear hV; go_simp; rfl)) | refine LeftL.tkN 22 rfl HS.out ?_
              (intro K' hK'; go_simp; refine hK' _ ?_; clear hK' K')
              refine LeftL.one 23 rfl (by kernel_rfl) ?_
              go_wp2_with fail
              refine (refin_fr C 0 nm _).mono ?_; rintro e w1 ⟨rfl, hf1⟩
              have hS1 := HS.out.call hf1 HS.out.size (by simp)
              clear hf1 HS
              have HS := Lib.hid hS1
              clear hS1
              go_wp2_with fail
              first | refine ⟨fun _ => HS.out, ?_⟩ | refine ⟨HS.out, ?_⟩
              first | ((first | refine LeftL.tkF (v := ?_) 24 rfl HS.out ?_ ?_ | refine LeftL.tkG (v := ?_) 24 rfl HS.out ?_ ?_); rotate_left; (· intro V hV; obtain ⟨q0, q1, q2, q3⟩ := HFX.out V hV; clear hV; go_simp; rfl)) | refine LeftL.tkN 24 rfl HS.out ?_
              (intro K' hK'; go_simp; refine hK' _ ?_; clear hK' K')
              first | ((first | refine LeftL.tkF (v := ?_) 25 rfl HS.out ?_ ?_ | refine LeftL.tkG (v := ?_) 25 rfl HS.out ?_ ?_); rotate_left; (· intro V hV; obtain ⟨q0, q1, q2, q3⟩ := HFX.out V hV; clear hV; go_simp; rfl)) | refine LeftL.tkN 25 rfl HS.out ?_
              (intro K' hK'; go_simp; refine hK' _ ?_; clear hK' K')
              refine LeftL.done (by kernel_rfl) ?_
              go_wp2_with fail
              go_meet
              case rel => exact ⟨by rw [HBAD.out, b1]; rfl, HS.out⟩
          obtain ⟨rfl, hfc⟩ := hcut
          have hfr := HFR.out.call hfc HFR.out.size (by simp)
          clear hfc HFR HFX
          cases bad
          · have hnx2 : (R.edges.take (j + 1)).foldl (edgeO k) (some fun _ => 0) = some (upd f A.toNat (f A.toNat ||| 1 <<< C.toNat)) := by
              rw [HNX.out]; unfold edgeO; exact if_pos (by rw [← HNM.out]; have := HBAD.out; revert this; cases inB A 0 nm <;> cases inB C 0 nm <;> simp)
            have HFR := Lib.hid hfr
            have HNX2 := Lib.hid hnx2
            clear hnx2 hfr
            go_wp2_with fail
            (try simp only [w4, w5])
            exact ⟨⟨j + 1, by simp, HJM.out, ⟨_, HNX2.out⟩, HFR.out⟩, HMS.out⟩
          · have hnx2 : (R.edges.take (j + 1)).foldl (edgeO k) (some fun _ => 0) = none := by
              rw [HNX.out]; unfold edgeO; exact if_neg (by rw [← HNM.out]; have := HBAD.out; revert this; cases inB A 0 nm <;> cases inB C 0 nm <;> simp)
            have hres := HNO.out (plannedO_n4 (by rw [← HN.out]; exact edges_pre hnx2))
            subst hres
            clear hnx2
            have HFR := Lib.hid hfr
            clear hfr
            go_wp2_with fail
            go_ret
            exact ⟨rfl, HF.out.call HFR.out HF.out.size (by simp)⟩
        · have hjm' : ¬ (j : Int) < (m : Int) := by omega
          obtain rfl : j = m := by omega
          have hed : edgesO k R.edges = some f := by unfold edgesO; rw [← List.take_length (l := R.edges), ← HM.out]; exact hfd
          obtain ⟨V2, hV2⟩ : ∃ V, V = wr := ⟨_, rfl⟩
          rw [← hV2] at hfr k1 c2 ⊢
          have hr2 : Rw V2 2 q.ea q.eb q.eo j fun i => edgeC (R.edges.getD i (0, 0)) := by rw [HM.out]; exact HR1.out.edges.frm hfr (Nat.le_refl _)
          have hf2 := HF.out.call hfr HF.out.size (by simp)
          have c1 : V2.cell? ⟨c, 1, none⟩ = some (.slice q.sa k q.sc) := k1.cell 1
          clear hV2 hfr hfd hj K0 HF HR1
          have hah := ahead_any k (by have := H12.out; omega) R.edges q.ea q.eb q.eo q.ec f hed V2 (by rw [← HM.out]; exact hr2)
          rw [← HM.out] at hah
          obtain ⟨B, hB⟩ : ∃ B, B = V2.heap.size := ⟨_, rfl⟩
          rw [← hB] at hah
          have HED := Lib.hid hed
          have HR2 := Lib.hid hr2
          have HF := Lib.hid hf2
          have K0 := Lib.hid k1
          have HAH := Lib.hid hah
          have HB := Lib.hid hB
          clear hB hah k1 hf2 hr2 hed
          go_wp2_with fail
          refine HAH.out.mono ?_; rintro e V3 ⟨rfl, hmat, hf1⟩
          rw [HB.out] at hf1
          have hf := HF.out.call hf1 HF.out.size (by simp)
          have k1 := hf1.blk K0.out K0.out.lt (by simp)
          clear hf1 HAH HF K0 c1 c2
          have HF := Lib.hid hf
          have K0 := Lib.hid k1
          have HMAT := Lib.hid hmat
          clear hmat k1 hf
          go_wp2_with fail
          go_loopw [8] (fun s8 wr => ∃ i : Nat, s8 = .int .i64 i ∧ i ≤ k ∧ (∀ x, x < i → (closeK k f k x).testBit x = false) ∧ Frm V3.heap.size [] V3 wr) (fun s8 _ => k - (intOf s8).toNat)
          case atStart => exact ⟨0, rfl, Nat.zero_le _, fun x hx => absurd hx (by omega), Frm.refl _ _ _⟩
          case round =>
            obtain ⟨i, rfl, hi, hall, hfr⟩ := hrel
            have k1 := hfr.blk K0.out K0.out.lt (by simp)
            have hm2 := HMAT.out.frm hfr (Nat.le_refl _)
            have c1 : wr.cell? ⟨c, 1, none⟩ = some (.slice q.sa k q.sc) := k1.cell 1
            by_cases hik : i < k
            · have hik' : (i : Int) < (k : Int) := by omega
              obtain ⟨w4, w5⟩ := wrapUp hik hlen
              have hms := meas_up hik
              obtain ⟨rw, hrw⟩ : ∃ r, r = B + 1 + i := ⟨_, rfl⟩
              have d1 : wr.cell? ⟨B, i, none⟩ = some (.slice (some ⟨rw, 0, none⟩) k k) := by rw [hrw]; exact hm2.row hik
              have d2 : wr.cell? ⟨rw, i, none⟩ = some (.bool ((closeK k f k i).testBit i)) := by rw [hrw]; exact hm2.bit hik hik
              cases hb : (closeK k f k i).testBit i
              · rw [hb] at d2
                have hall2 : ∀ x, x < i + 1 → (closeK k f k x).testBit x = false := fun x hx => by
                  rcases Nat.lt_or_ge x i with h | h
                  · exact hall x h
                  · obtain rfl : x = i := by omega
                    exact hb
                clear hm2 hrw k1 hall
                have HBB := Lib.hid hb
                have HALL := Lib.hid hall2
                have HFR := Lib.hid hfr
                have HMS := Lib.hid hms
                clear hms hfr hall2 hb
                go_wp2_with fail
                (try simp only [w4, w5])
                exact ⟨⟨i + 1, by simp, hik, HALL.out, HFR.out⟩, HMS.out⟩
              · rw [hb] at d2
                have hres := HNO.out (plannedO_n5 (by rw [← HN.out]; exact HED.out) (fun h => by
                  rw [← HN.out] at h
                  have := h i hik
                  rw [hb] at this; cases this))
                subst hres
                clear hm2 hrw k1 hall
                have HBB := Lib.hid hb
                have HFR := Lib.hid hfr
                have HMS := Lib.hid hms
                clear hms hfr hb
                go_wp2_with fail
                go_ret
                exact ⟨rfl, HF.out.call HFR.out HF.out.size (by simp)⟩
            · have hik' : ¬ (i : Int) < (k : Int) := by omega
              obtain rfl : i = k := by omega
              have hres : res = true := by
                have hn := HN.out
                have h1 := HED.out
                rw [hn] at h1 hall
                obtain ⟨P, hP, _⟩ := plannedO_y HST.out (by have := H12.out; omega) (by have := H100.out; have := HM.out; omega) HSS.out h1 hall
                rw [HRS.out, hP]; rfl
              subst hres
              clear hm2 k1 hall
              have HFR := Lib.hid hfr
              clear hfr
              go_wp2_with fail
              go_ret
              exact ⟨rfl, HF.out.call HFR.out HF.out.size (by simp)⟩
end Go.Proofs.YtfmigicmfolbjaaDoor
