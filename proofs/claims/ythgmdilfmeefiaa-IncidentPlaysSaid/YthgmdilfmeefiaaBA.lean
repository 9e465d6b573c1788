/-
  Texts J25, J26, J27 of this claim, one behind the other.
-/
import Derived.Test.YthgmdilfmeefiaaB9
namespace Go.Proofs.Ythgmdilfmeefiaa
set_option linter.all false
set_option linter.unusedSimpArgs false
set_option linter.unusedVariables false
open Go.RowKit

theorem allF_any (j : Int) (w : World) : Calls Try.prog 65 #[.int .i64 j] w fun e w' => e = .returned (.bool true) ∧ Frm w.heap.size [] w w' := by
  go_enter Try.func65, Try.ntmps65
  go_wp2_with fail
  go_ret
  exact ⟨rfl, Frm.refl _ _ _⟩
theorem selK_all (s : BS) (i : Int) : selK (fun j => decide ((s.o j : Int) = i) && (fun _ : Nat => true) j) s.reps.length = ofL s i := by
  unfold selK ofL
  congr 1
  funext j
  simp
set_option maxHeartbeats 4000000 in
theorem all_any {w : World} {k : Nat} {s : BS} {m : Mem} (h : BookAt w k s m) (i : Int) :
    Calls Try.prog 37 #[.pointer (some ⟨k, 0, none⟩), .int .i64 i] w fun e w' => ∃ v, e = .returned v ∧ Ints w w' v (ofL s i) ∧ Frm w.heap.size [] w w' := by
  have hc := of_any h i 65 #[] (enters Try.func65 (by kernel_rfl) (by kernel_rfl)) (fun _ => true) (fun V hV j hj => allF_any j V)
  rw [selK_all] at hc
  obtain ⟨L, hL⟩ : ∃ L, L = ofL s i := ⟨_, rfl⟩
  rw [← hL] at hc ⊢
  clear hL
  have HC := Lib.hid hc
  clear hc
  go_enter Try.func37, Try.ntmps37
  go_wp2_with fail
  refine HC.out.mono ?_; rintro e w1 ⟨v, rfl, hin, hf⟩
  have HIN := Lib.hid hin
  have HF := Lib.hid hf
  clear hf hin
  go_wp2_with fail
  go_ret
  exact ⟨_, rfl, HIN.out, HF.out⟩
theorem found_enough {count souls : Int} (hc : 0 ≤ count) (hs : -1 ≤ souls) : (decide (souls ≤ 0) && decide (-souls ≤ count) || decide (0 < souls) && decide (souls ≤ count)) = (decide (souls = 0) || decide (max 1 souls ≤ count)) := by
  rw [Bool.eq_iff_iff]
  simp only [Bool.or_eq_true, Bool.and_eq_true, decide_eq_true_eq]
  omega
set_option maxRecDepth 100000 in
set_option maxHeartbeats 8000000 in
theorem enough_any (count : Int) (r : Rep) (ad : Option Addr) (cap : Nat) (hc : 0 ≤ count) (hs : -1 ≤ r.souls ∧ r.souls ≤ 10000) (w : World) :
    Calls Try.prog 96 #[.agg #[.int .i64 count], .agg (repC r ad cap).toArray] w fun e w' => e = .returned (.bool (foundB count r)) ∧ Frm w.heap.size [] w w' := by
  have hf0 := Try.func96
  have hfo : foundB count r = (decide (r.souls ≤ 0) && decide (-r.souls ≤ count) || decide (0 < r.souls) && decide (r.souls ≤ count)) := (found_enough hc hs.1).symm
  obtain ⟨C, hC⟩ : ∃ E, E = repC r ad cap := ⟨_, rfl⟩
  have h5 : C[5]? = some (.int .i64 r.souls) := by rw [hC]; rfl
  obtain ⟨souls, hso⟩ : ∃ c, c = r.souls := ⟨_, rfl⟩
  obtain ⟨res, hres⟩ : ∃ c, c = foundB count r := ⟨_, rfl⟩
  rw [← hso] at hs h5 hfo
  rw [← hC, ← hres]
  rw [← hres] at hfo
  have e1 : IntKind.i64.wrap (-souls) = -souls := IntWalk.i64_in _ (by omega)
  have e2 : wrap64 (-souls) = -souls := IntWalk.wrap64_in _ (by omega)
  clear hso hC hres hc hs
  have H5 := Lib.hid h5
  have HFO := Lib.hid hfo
  clear hfo h5
  go_enter Try.func96, Try.ntmps96
  go_upto_region 1 with fail
  refine namedC ?_; intro W hW
  have k0 : Blk W w.heap.size 99 [.int .i64 count] := by rw [hW]; refine Blk.alloc' ?_; exact Blk.new w 99 _
  have k1 : Blk W (w.heap.size + 1) 24 C := by rw [hW]; exact Blk.new' _ 24 C (by simp)
  have hf : Frm w.heap.size [] w W := by rw [hW]; repeat (first | with_reducible exact Frm.refl _ _ _ | with_reducible refine Frm.drewN ?_ | with_reducible refine Frm.drew ?_ | ((with_reducible refine Frm.setCell' ?_ ?_); · first | (left; simp; done) | (right; simp; done) | (right; simp; omega)) | ((with_reducible refine Frm.alloc' ?_ ?_); · first | exact Nat.le_refl _ | (simp; done) | (simp; omega)))
  clear hW hf0
  have c0 : W.cell? ⟨w.heap.size, 0, none⟩ = some (.int .i64 count) := k0.cell 0
  have c5 : W.cell? ⟨w.heap.size + 1, 5, none⟩ = some (.int .i64 souls) := (k1.cell 5).trans H5.out
  clear k0 k1
  have HF := Lib.hid hf
  clear hf
  by_cases a : souls ≤ 0
  · have a2 : ¬ 0 < souls := by omega
    by_cases b : -souls ≤ count
    · go_wp2_with fail
      (try simp only [e1, e2])
      go_ret
      exact ⟨by rw [HFO.out]; simp [a, b, e1, e2], HF.out⟩
    · go_wp2_with fail
      (try simp only [e1, e2])
      go_ret
      exact ⟨by rw [HFO.out]; simp [a, b, a2, e1, e2] <;> omega, HF.out⟩
  · have a2 : 0 < souls := by omega
    by_cases b : souls ≤ count
    · go_wp2_with fail
      go_ret
      exact ⟨by rw [HFO.out]; simp [a, b, a2] <;> omega, HF.out⟩
    · go_wp2_with fail
      go_ret
      exact ⟨by rw [HFO.out]; simp [a, b, a2] <;> omega, HF.out⟩
theorem assert99_yes (w : World) (v : Value) : (Instr.typeAssert (.iface 99 v) 96 99 true).run Try.prog w = .ok (.tuple #[v, .bool true]) w := by kernel_rfl
theorem zero99 (w : World) : (do pure (Value.tuple #[← zeroValue 99, .bool false]) : Sem Value).run Try.prog w = .ok (.tuple #[.agg #[.int .i64 0], .bool false]) w := by kernel_rfl
theorem assert99_no (w : World) (u : TypeId) (v : Value) (h : u ≠ 99) : (Instr.typeAssert (.iface u v) 96 99 true).run Try.prog w = .ok (.tuple #[.agg #[.int .i64 0], .bool false]) w := by
  have e : (Instr.typeAssert (.iface u v) 96 99 true).run Try.prog w = (if u = 99 then (pure (Value.tuple #[v, .bool true]) : Sem Value) else (do pure (Value.tuple #[← zeroValue 99, .bool false]))).run Try.prog w := by kernel_rfl
  rw [e, if_neg h]
  exact zero99 w
theorem info99 : (Try.prog.info? 99).map (fun i => i.size) = some 1 := by kernel_rfl
theorem rep_souls {r : Rep} (h : repB r = true) : -1 ≤ r.souls ∧ r.souls ≤ 10000 := by
  unfold repB at h
  simp only [Bool.and_eq_true] at h
  exact inB_iff.1 h.1.2
theorem BInv.prfAt {s : BS} (h : BInv s) {q : Nat} (hq : q < s.prf.length) : (0 ≤ (s.pf q).rep ∧ (s.pf q).rep < s.reps.length) ∧ rightB (s.pf q) (s.rp (s.pf q).rep.toNat) = true := by
  unfold BS.pf
  rw [List.getD_eq_getElem?_getD, List.getElem?_eq_getElem hq]
  exact h.prf _ (List.getElem_mem hq)
theorem right_count {p : Prf} {r : Rep} (h : rightB p r = true) : 0 ≤ p.count ∧ p.count ≤ 10000 := by
  unfold rightB at h
  simp only [Bool.and_eq_true] at h
  exact inB_iff.1 h.2
set_option maxRecDepth 100000 in
set_option maxHeartbeats 16000000 in
theorem settledF_any {w : World} {k : Nat} {s : BS} {m : Mem} (h : BookAt w k s m) (n : Nat) (hn : n < s.reps.length) (pn pk px : Nat)
    (cn : w.cell? ⟨pn, 0, none⟩ = some (.int .i64 (n : Int))) (ck : w.cell? ⟨pk, 0, none⟩ = some (.pointer (some ⟨k, 0, none⟩))) (kx : Blk w px 81 (entAt s m n)) (q : Nat) (hq : q < s.prf.length) :
    Calls Try.prog 95 #[.agg (prfAt s m q).toArray, .pointer (some ⟨pn, 0, none⟩), .pointer (some ⟨pk, 0, none⟩), .pointer (some ⟨px, 0, none⟩)] w fun e w' => e = .returned (.bool (settleB s n (s.pf q))) ∧ Frm w.heap.size [] w w' := by
  have hf0 := Try.func95
  have hpr := h.inv.prfAt hq
  have hpv := h.pv q hq
  have hct := right_count hpr.2
  have hso := rep_souls (h.rok hn)
  obtain ⟨x, hx⟩ : ∃ x : Nat, x = (s.pf q).rep.toNat := ⟨_, rfl⟩
  have hxr : (s.pf q).rep = (x : Int) := by omega
  have hxl : x < s.reps.length := by omega
  have hen : ∀ V, Calls Try.prog 96 #[.agg #[.int .i64 (s.pf q).count], .agg (repC (s.rp n) (m.ad n) (m.wc n)).toArray] V fun e w' => e = .returned (.bool (foundB (s.pf q).count (s.rp n))) ∧ Frm V.heap.size [] V w' := fun V => enough_any (s.pf q).count (s.rp n) (m.ad n) (m.wc n) hct.1 hso V
  obtain ⟨ea, eb, eo, ec, hve, hrw⟩ := h.rwE
  have had := hrw.ad (by omega)
  subst had
  have hcx : w.cell? ⟨eb, eo + x * 8 + 7, none⟩ = some (.int .i64 (s.o x : Int)) := hrw.at_ x hxl 7 _ rfl
  have c3 : w.cell? ⟨k, 3, none⟩ = some (.slice (some ⟨eb, eo, none⟩) s.reps.length ec) := by rw [← hve]; exact h.blk.cell 3
  have hsb : settleB s n (s.pf q) = (decide ((x : Int) = (n : Int)) || (decide ((s.pf q).kind = 1) && decide ((s.o x : Int) = (s.o n : Int)) && decide ((s.rp n).time ≤ (s.pf q).time) && foundB (s.pf q).count (s.rp n))) := by
    unfold settleB
    rw [hxr, Int.toNat_natCast]
    have e : decide ((s.o x : Int) = (s.o n : Int)) = decide (s.o x = s.o n) := by
      rw [Bool.eq_iff_iff, decide_eq_true_eq, decide_eq_true_eq]; omega
    rw [e]
  obtain ⟨pr, hprf⟩ : ∃ p, p = s.pf q := ⟨_, rfl⟩
  have hpa : prfAt s m q = [.int .i64 (x : Int), .int .i64 pr.time, m.pv q] := by unfold prfAt prfC; rw [hxr, ← hprf]
  rw [hpa, hsb, ← hprf]
  rw [← hprf] at hpv hen
  have hx7 := (kx.cell 7).trans (show (entAt s m n)[7]? = some (.int .i64 (s.o n : Int)) from rfl)
  have hx1 := (kx.cell 1).trans (show (entAt s m n)[1]? = some (.int .i64 (s.rp n).time) from rfl)
  have hl24 : (loadVar 24 ⟨px, 0, none⟩).run Try.prog w = .ok (.agg (repC (s.rp n) (m.ad n) (m.wc n)).toArray) w := kx.loadPart (P := Try.prog) Try.underlying24 rfl _ ent_part info24
  have hl24' : ∀ V, Frm w.heap.size [] w V → (loadVar 24 ⟨px, 0, none⟩).run Try.prog V = .ok (.agg (repC (s.rp n) (m.ad n) (m.wc n)).toArray) V := fun V hV => (hV.blk kx kx.lt (by simp)).loadPart (P := Try.prog) Try.underlying24 rfl _ ent_part info24
  obtain ⟨C, hC⟩ : ∃ E, E = repC (s.rp n) (m.ad n) (m.wc n) := ⟨_, rfl⟩
  obtain ⟨ox, hox⟩ : ∃ c, c = (s.o x : Int) := ⟨_, rfl⟩
  obtain ⟨on, hon⟩ : ∃ c, c = (s.o n : Int) := ⟨_, rfl⟩
  obtain ⟨tn, htn⟩ : ∃ c, c = (s.rp n).time := ⟨_, rfl⟩
  obtain ⟨tp, htp⟩ : ∃ c, c = pr.time := ⟨_, rfl⟩
  obtain ⟨fo, hfo⟩ : ∃ c, c = foundB pr.count (s.rp n) := ⟨_, rfl⟩
  obtain ⟨N, hN⟩ : ∃ c, c = s.reps.length := ⟨_, rfl⟩
  have hN5 : N ≤ 500 := by rw [hN]; exact h.inv.max.1
  obtain ⟨v, hv⟩ : ∃ c, c = m.pv q := ⟨_, rfl⟩
  rw [← hC] at hen hl24'
  rw [← hfo] at hen
  rw [← hox] at hcx
  rw [← hon] at hx7
  rw [← htn] at hx1
  rw [← hN] at c3 hxl
  rw [← hv] at hpv
  rw [← hv, ← htp, ← hox, ← hon, ← htn, ← hfo]
  have hkx := kx.lt
  clear hl24 hC hox hon htn htp hfo hN hv hpa hsb hprf hrw hve hx hxr hct hso hpr h hn hq kx
  have HEN := Lib.hid hen
  have HL24 := Lib.hid hl24'
  have HN5 := Lib.hid hN5
  have HKX := Lib.hid hkx
  have HXL := Lib.hid hxl
  clear hxl hkx hN5 hl24' hen
  go_enter Try.func95, Try.ntmps95
  go_upto_region 1 with fail
  refine namedC ?_; intro W hW
  have k0 : Blk W w.heap.size 102 [.int .i64 (x : Int), .int .i64 tp, v] := by rw [hW]; exact Blk.new w 102 _
  have hf : Frm w.heap.size [] w W := by rw [hW]; repeat (first | with_reducible exact Frm.refl _ _ _ | with_reducible refine Frm.drewN ?_ | with_reducible refine Frm.drew ?_ | ((with_reducible refine Frm.setCell' ?_ ?_); · first | (left; simp; done) | (right; simp; done) | (right; simp; omega)) | ((with_reducible refine Frm.alloc' ?_ ?_); · first | exact Nat.le_refl _ | (simp; done) | (simp; omega)))
  clear hW hf0
  have c0 : W.cell? ⟨w.heap.size, 0, none⟩ = some (.int .i64 (x : Int)) := k0.cell 0
  have c2 : W.cell? ⟨w.heap.size, 2, none⟩ = some v := k0.cell 2
  have cn1 : W.cell? ⟨pn, 0, none⟩ = some (.int .i64 (n : Int)) := (hf.cell (cell_lt cn) (by simp)).trans cn
  have HF := Lib.hid hf
  have K0 := Lib.hid k0
  have CN := Lib.hid cn
  have CK := Lib.hid ck
  have C3 := Lib.hid c3
  have HCX := Lib.hid hcx
  have HX7 := Lib.hid hx7
  have HX1 := Lib.hid hx1
  clear hx1 hx7 hcx c3 ck cn k0 hf
  by_cases hxn : x = n
  · subst hxn
    go_wp2_with fail
    go_ret
    exact ⟨by simp, HF.out⟩
  have hne : ¬ (x : Int) = (n : Int) := by omega
  have hne2 : ((x : Int) == (n : Int)) = false := by simp [hne]
  have hxN : (x : Int) < (N : Int) := by have := HXL.out; omega
  by_cases hki : pr.kind = 1
  · have hv := hpv.1 hki
    obtain ⟨count, hcount⟩ : ∃ c, c = pr.count := ⟨_, rfl⟩
    rw [← hcount] at hv HEN
    subst hv
    clear hcount
    have has : ∀ w, (Instr.typeAssert (.iface 99 (.agg #[.int .i64 count])) 96 99 true).run Try.prog w = .ok (.tuple #[.agg #[.int .i64 count], .bool true]) w := fun w => assert99_yes w _
    go_wp2_with (with_reducible refine atStore 99 rfl ?_; refine stop_ ?_)
    refine go_on ?_
    refine wpList_storeNew (P := Try.prog) (cs := [.int .i64 count]) rfl rfl rfl rfl rfl info99 (by simp [Value.oneCell']) ?_
    intro V1 hv1 k6 hz; clear hz
    dsimp only [Act.put]
    have hV1 : W.heap.size < V1.heap.size := k6.lt
    have hf2 := HF.out.call hv1 HF.out.size (by simp)
    have k0 := hv1.blk K0.out K0.out.lt (by simp)
    have c0 : V1.cell? ⟨w.heap.size, 0, none⟩ = some (.int .i64 (x : Int)) := k0.cell 0
    have c1 : V1.cell? ⟨w.heap.size, 1, none⟩ = some (.int .i64 tp) := k0.cell 1
    obtain ⟨p6, hp6⟩ : ∃ p, p = W.heap.size := ⟨_, rfl⟩
    rw [← hp6] at k6 hV1 ⊢
    have hfx : ∀ V, Frm V1.heap.size [] V1 V → V.cell? ⟨pk, 0, none⟩ = some (.pointer (some ⟨k, 0, none⟩)) ∧ V.cell? ⟨k, 3, none⟩ = some (.slice (some ⟨eb, eo, none⟩) N ec) ∧ V.cell? ⟨eb, eo + x * 8 + 7, none⟩ = some (.int .i64 ox) ∧ V.cell? ⟨px, 7, none⟩ = some (.int .i64 on) ∧ V.cell? ⟨px, 1, none⟩ = some (.int .i64 tn) ∧ V.cell? ⟨w.heap.size, 0, none⟩ = some (.int .i64 (x : Int)) ∧ V.cell? ⟨w.heap.size, 1, none⟩ = some (.int .i64 tp) := fun V hV => by
      have hV2 := hf2.call hV hf2.size (by simp)
      exact ⟨(hV2.cell (cell_lt CK.out) (by simp)).trans CK.out, (hV2.cell (cell_lt C3.out) (by simp)).trans C3.out, (hV2.cell (cell_lt HCX.out) (by simp)).trans HCX.out, (hV2.cell (cell_lt HX7.out) (by simp)).trans HX7.out, (hV2.cell (cell_lt HX1.out) (by simp)).trans HX1.out, (hV.cell (cell_lt c0) (by simp)).trans c0, (hV.cell (cell_lt c1) (by simp)).trans c1⟩
    have h99 : ∀ V, Frm V1.heap.size [] V1 V → (loadVar 99 ⟨p6, 0, none⟩).run Try.prog V = .ok (.agg #[.int .i64 count]) V := fun V hV => loadVarB (hV.blk k6 k6.lt (by simp)) (P := Try.prog) Try.underlying99 rfl info99
    have h24 : ∀ V, Frm V1.heap.size [] V1 V → (loadVar 24 ⟨px, 0, none⟩).run Try.prog V = .ok (.agg C.toArray) V := fun V hV => HL24.out V (hf2.call hV hf2.size (by simp))
    clear hv1 k0 c0 c1 k6 hp6 HF K0
    have HF := Lib.hid hf2
    have HFX := Lib.hid hfx
    have H99 := Lib.hid h99
    have H24 := Lib.hid h24
    clear h24 h99 hfx hf2
    by_cases eo1 : ox = on
    rotate_left
    · have eo2 : (ox == on) = false := by simp [eo1]
      go_upto_region 4 with fail
      refine wp_region_leftL (fun V => Frm V1.heap.size [] V1 V) 1000 (by kernel_rfl) ?_
      have hS : Frm V1.heap.size [] V1 V1.drew := (Frm.refl _ _ V1).drew
      have HS := Lib.hid hS
      clear hS
      first | (refine LeftL.tkG (v := ?_) 0 rfl HS.out ?_ ?_; rotate_left; · intro V hV; obtain ⟨z1, z2, z3, z4, z5, z6, z7⟩ := HFX.out V hV; clear hV; go_simp; rfl) | refine LeftL.tkN 0 rfl HS.out ?_
      (intro K h; go_simp; refine h _ ?_; clear h K)
      first | (refine LeftL.tkG (v := ?_) 1 rfl HS.out ?_ ?_; rotate_left; · intro V hV; obtain ⟨z1, z2, z3, z4, z5, z6, z7⟩ := HFX.out V hV; clear hV; go_simp; rfl) | refine LeftL.tkN 1 rfl HS.out ?_
      (intro K h; go_simp; refine h _ ?_; clear h K)
      first | (refine LeftL.tkG (v := ?_) 2 rfl HS.out ?_ ?_; rotate_left; · intro V hV; obtain ⟨z1, z2, z3, z4, z5, z6, z7⟩ := HFX.out V hV; clear hV; go_simp; rfl) | refine LeftL.tkN 2 rfl HS.out ?_
      (intro K h; go_simp; refine h _ ?_; clear h K)
      first | (refine LeftL.tkG (v := ?_) 3 rfl HS.out ?_ ?_; rotate_left; · intro V hV; obtain ⟨z1, z2, z3, z4, z5, z6, z7⟩ := HFX.out V hV; clear hV; go_simp; rfl) | refine LeftL.tkN 3 rfl HS.out ?_
      (intro K h; go_simp; refine h _ ?_; clear h K)
      first | (refine LeftL.tkG (v := ?_) 4 rfl HS.out ?_ ?_; rotate_left; · intro V hV; obtain ⟨z1, z2, z3, z4, z5, z6, z7⟩ := HFX.out V hV; clear hV; go_simp; rfl) | refine LeftL.tkN 4 rfl HS.out ?_
      (intro K h; go_simp; refine h _ ?_; clear h K)
      first | (refine LeftL.tkG (v := ?_) 5 rfl HS.out ?_ ?_; rotate_left; · intro V hV; obtain ⟨z1, z2, z3, z4, z5, z6, z7⟩ := HFX.out V hV; clear hV; go_simp; rfl) | refine LeftL.tkN 5 rfl HS.out ?_
      (intro K h; go_simp; refine h _ ?_; clear h K)
      first | (refine LeftL.tkG (v := ?_) 6 rfl HS.out ?_ ?_; rotate_left; · intro V hV; obtain ⟨z1, z2, z3, z4, z5, z6, z7⟩ := HFX.out V hV; clear hV; go_simp; rfl) | refine LeftL.tkN 6 rfl HS.out ?_
      (intro K h; go_simp; refine h _ ?_; clear h K)
      first | (refine LeftL.tkG (v := ?_) 7 rfl HS.out ?_ ?_; rotate_left; · intro V hV; obtain ⟨z1, z2, z3, z4, z5, z6, z7⟩ := HFX.out V hV; clear hV; go_simp; rfl) | refine LeftL.tkN 7 rfl HS.out ?_
      (intro K h; go_simp; refine h _ ?_; clear h K)
      first | (refine LeftL.tkG (v := ?_) 8 rfl HS.out ?_ ?_; rotate_left; · intro V hV; obtain ⟨z1, z2, z3, z4, z5, z6, z7⟩ := HFX.out V hV; clear hV; go_simp; rfl) | refine LeftL.tkN 8 rfl HS.out ?_
      (intro K h; go_simp; refine h _ ?_; clear h K)
      first | (refine LeftL.tkG (v := ?_) 9 rfl HS.out ?_ ?_; rotate_left; · intro V hV; obtain ⟨z1, z2, z3, z4, z5, z6, z7⟩ := HFX.out V hV; clear hV; go_simp; rfl) | refine LeftL.tkN 9 rfl HS.out ?_
      (intro K h; go_simp; refine h _ ?_; clear h K)
      first | (refine LeftL.tkG (v := ?_) 10 rfl HS.out ?_ ?_; rotate_left; · intro V hV; obtain ⟨z1, z2, z3, z4, z5, z6, z7⟩ := HFX.out V hV; clear hV; go_simp; rfl) | refine LeftL.tkN 10 rfl HS.out ?_
      (intro K h; go_simp; refine h _ ?_; clear h K)
      first | (refine LeftL.tkG (v := ?_) 11 rfl HS.out ?_ ?_; rotate_left; · intro V hV; obtain ⟨z1, z2, z3, z4, z5, z6, z7⟩ := HFX.out V hV; clear hV; go_simp; rfl) | refine LeftL.tkN 11 rfl HS.out ?_
      (intro K h; go_simp; refine h _ ?_; clear h K)
      first | (refine LeftL.tkG (v := ?_) 12 rfl HS.out ?_ ?_; rotate_left; · intro V hV; obtain ⟨z1, z2, z3, z4, z5, z6, z7⟩ := HFX.out V hV; clear hV; go_simp; rfl) | refine LeftL.tkN 12 rfl HS.out ?_
      (intro K h; go_simp; refine h _ ?_; clear h K)
      first | (refine LeftL.tkG (v := ?_) 13 rfl HS.out ?_ ?_; rotate_left; · intro V hV; obtain ⟨z1, z2, z3, z4, z5, z6, z7⟩ := HFX.out V hV; clear hV; go_simp; rfl) | refine LeftL.tkN 13 rfl HS.out ?_
      (intro K h; go_simp; refine h _ ?_; clear h K)
      first | (refine LeftL.tkG (v := ?_) 14 rfl HS.out ?_ ?_; rotate_left; · intro V hV; obtain ⟨z1, z2, z3, z4, z5, z6, z7⟩ := HFX.out V hV; clear hV; go_simp; rfl) | refine LeftL.tkN 14 rfl HS.out ?_
      (intro K h; go_simp; refine h _ ?_; clear h K)
      first | (refine LeftL.tkG (v := ?_) 15 rfl HS.out ?_ ?_; rotate_left; · intro V hV; obtain ⟨z1, z2, z3, z4, z5, z6, z7⟩ := HFX.out V hV; clear hV; go_simp; rfl) | refine LeftL.tkN 15 rfl HS.out ?_
      (intro K h; go_simp; refine h _ ?_; clear h K)
      first | (refine LeftL.tkG (v := ?_) 16 rfl HS.out ?_ ?_; rotate_left; · intro V hV; obtain ⟨z1, z2, z3, z4, z5, z6, z7⟩ := HFX.out V hV; clear hV; go_simp; rfl) | refine LeftL.tkN 16 rfl HS.out ?_
      (intro K h; go_simp; refine h _ ?_; clear h K)
      first | (refine LeftL.tkG (v := ?_) 17 rfl HS.out ?_ ?_; rotate_left; · intro V hV; obtain ⟨z1, z2, z3, z4, z5, z6, z7⟩ := HFX.out V hV; clear hV; go_simp; rfl) | refine LeftL.tkN 17 rfl HS.out ?_
      (intro K h; go_simp; refine h _ ?_; clear h K)
      first | (refine LeftL.tkG (v := ?_) 18 rfl HS.out ?_ ?_; rotate_left; · intro V hV; obtain ⟨z1, z2, z3, z4, z5, z6, z7⟩ := HFX.out V hV; clear hV; go_simp; rfl) | refine LeftL.tkN 18 rfl HS.out ?_
      (intro K h; go_simp; refine h _ ?_; clear h K)
      first | (refine LeftL.tkG (v := ?_) 19 rfl HS.out ?_ ?_; rotate_left; · intro V hV; obtain ⟨z1, z2, z3, z4, z5, z6, z7⟩ := HFX.out V hV; clear hV; go_simp; rfl) | refine LeftL.tkN 19 rfl HS.out ?_
      (intro K h; go_simp; refine h _ ?_; clear h K)
      first | (refine LeftL.tkG (v := ?_) 20 rfl HS.out ?_ ?_; rotate_left; · intro V hV; obtain ⟨z1, z2, z3, z4, z5, z6, z7⟩ := HFX.out V hV; clear hV; go_simp; rfl) | refine LeftL.tkN 20 rfl HS.out ?_
      (intro K h; go_simp; refine h _ ?_; clear h K)
      first | (refine LeftL.tkG (v := ?_) 21 rfl HS.out ?_ ?_; rotate_left; · intro V hV; obtain ⟨z1, z2, z3, z4, z5, z6, z7⟩ := HFX.out V hV; clear hV; go_simp; rfl) | refine LeftL.tkN 21 rfl HS.out ?_
      (intro K h; go_simp; refine h _ ?_; clear h K)
      first | (refine LeftL.tkG (v := ?_) 22 rfl HS.out ?_ ?_; rotate_left; · intro V hV; obtain ⟨z1, z2, z3, z4, z5, z6, z7⟩ := HFX.out V hV; clear hV; go_simp; rfl) | refine LeftL.tkN 22 rfl HS.out ?_
      (intro K h; go_simp; refine h _ ?_; clear h K)
      first | (refine LeftL.tkG (v := ?_) 23 rfl HS.out ?_ ?_; rotate_left; · intro V hV; obtain ⟨z1, z2, z3, z4, z5, z6, z7⟩ := HFX.out V hV; clear hV; go_simp; rfl) | refine LeftL.tkN 23 rfl HS.out ?_
      (intro K h; go_simp; refine h _ ?_; clear h K)
      first | (refine LeftL.tkG (v := ?_) 24 rfl HS.out ?_ ?_; rotate_left; · intro V hV; obtain ⟨z1, z2, z3, z4, z5, z6, z7⟩ := HFX.out V hV; clear hV; go_simp; rfl) | refine LeftL.tkN 24 rfl HS.out ?_
      (intro K h; go_simp; refine h _ ?_; clear h K)
      first | (refine LeftL.tkG (v := ?_) 25 rfl HS.out ?_ ?_; rotate_left; · intro V hV; obtain ⟨z1, z2, z3, z4, z5, z6, z7⟩ := HFX.out V hV; clear hV; go_simp; rfl) | refine LeftL.tkN 25 rfl HS.out ?_
      (intro K h; go_simp; refine h _ ?_; clear h K)
      first | (refine LeftL.tkG (v := ?_) 26 rfl HS.out ?_ ?_; rotate_left; · intro V hV; obtain ⟨z1, z2, z3, z4, z5, z6, z7⟩ := HFX.out V hV; clear hV; go_simp; rfl) | refine LeftL.tkN 26 rfl HS.out ?_
      (intro K h; go_simp; refine h _ ?_; clear h K)
      first | (refine LeftL.tkG (v := ?_) 27 rfl HS.out ?_ ?_; rotate_left; · intro V hV; obtain ⟨z1, z2, z3, z4, z5, z6, z7⟩ := HFX.out V hV; clear hV; go_simp; rfl) | refine LeftL.tkN 27 rfl HS.out ?_
      (intro K h; go_simp; refine h _ ?_; clear h K)
      first | (refine LeftL.tkG (v := ?_) 28 rfl HS.out ?_ ?_; rotate_left; · intro V hV; obtain ⟨z1, z2, z3, z4, z5, z6, z7⟩ := HFX.out V hV; clear hV; go_simp; rfl) | refine LeftL.tkN 28 rfl HS.out ?_
      (intro K h; go_simp; refine h _ ?_; clear h K)
      refine LeftL.one 29 rfl (by kernel_rfl) ?_
      go_wp2_with fail
      first | refine ⟨fun _ => HS.out, ?_⟩ | refine ⟨HS.out, ?_⟩
      refine LeftL.done (by kernel_rfl) ?_
      have hf := HF.out.call HS.out HF.out.size (by simp)
      clear HF HS HFX
      have HF := Lib.hid hf
      clear hf
      go_wp2_with fail
      go_ret
      exact ⟨by (simp [hne, hki, eo1]) <;> first | omega | (intro h; exfalso; omega), HF.out⟩
    subst eo1
    by_cases et : tn ≤ tp
    rotate_left
    · go_upto_region 4 with fail
      refine wp_region_leftL (fun V => Frm V1.heap.size [] V1 V) 1000 (by kernel_rfl) ?_
      have hS : Frm V1.heap.size [] V1 V1.drew := (Frm.refl _ _ V1).drew
      have HS := Lib.hid hS
      clear hS
      first | (refine LeftL.tkG (v := ?_) 0 rfl HS.out ?_ ?_; rotate_left; · intro V hV; obtain ⟨z1, z2, z3, z4, z5, z6, z7⟩ := HFX.out V hV; clear hV; go_simp; rfl) | refine LeftL.tkN 0 rfl HS.out ?_
      (intro K h; go_simp; refine h _ ?_; clear h K)
      first | (refine LeftL.tkG (v := ?_) 1 rfl HS.out ?_ ?_; rotate_left; · intro V hV; obtain ⟨z1, z2, z3, z4, z5, z6, z7⟩ := HFX.out V hV; clear hV; go_simp; rfl) | refine LeftL.tkN 1 rfl HS.out ?_
      (intro K h; go_simp; refine h _ ?_; clear h K)
      first | (refine LeftL.tkG (v := ?_) 2 rfl HS.out ?_ ?_; rotate_left; · intro V hV; obtain ⟨z1, z2, z3, z4, z5, z6, z7⟩ := HFX.out V hV; clear hV; go_simp; rfl) | refine LeftL.tkN 2 rfl HS.out ?_
      (intro K h; go_simp; refine h _ ?_; clear h K)
      first | (refine LeftL.tkG (v := ?_) 3 rfl HS.out ?_ ?_; rotate_left; · intro V hV; obtain ⟨z1, z2, z3, z4, z5, z6, z7⟩ := HFX.out V hV; clear hV; go_simp; rfl) | refine LeftL.tkN 3 rfl HS.out ?_
      (intro K h; go_simp; refine h _ ?_; clear h K)
      first | (refine LeftL.tkG (v := ?_) 4 rfl HS.out ?_ ?_; rotate_left; · intro V hV; obtain ⟨z1, z2, z3, z4, z5, z6, z7⟩ := HFX.out V hV; clear hV; go_simp; rfl) | refine LeftL.tkN 4 rfl HS.out ?_
      (intro K h; go_simp; refine h _ ?_; clear h K)
      first | (refine LeftL.tkG (v := ?_) 5 rfl HS.out ?_ ?_; rotate_left; · intro V hV; obtain ⟨z1, z2, z3, z4, z5, z6, z7⟩ := HFX.out V hV; clear hV; go_simp; rfl) | refine LeftL.tkN 5 rfl HS.out ?_
      (intro K h; go_simp; refine h _ ?_; clear h K)
      first | (refine LeftL.tkG (v := ?_) 6 rfl HS.out ?_ ?_; rotate_left; · intro V hV; obtain ⟨z1, z2, z3, z4, z5, z6, z7⟩ := HFX.out V hV; clear hV; go_simp; rfl) | refine LeftL.tkN 6 rfl HS.out ?_
      (intro K h; go_simp; refine h _ ?_; clear h K)
      first | (refine LeftL.tkG (v := ?_) 7 rfl HS.out ?_ ?_; rotate_left; · intro V hV; obtain ⟨z1, z2, z3, z4, z5, z6, z7⟩ := HFX.out V hV; clear hV; go_simp; rfl) | refine LeftL.tkN 7 rfl HS.out ?_
      (intro K h; go_simp; refine h _ ?_; clear h K)
      first | (refine LeftL.tkG (v := ?_) 8 rfl HS.out ?_ ?_; rotate_left; · intro V hV; obtain ⟨z1, z2, z3, z4, z5, z6, z7⟩ := HFX.out V hV; clear hV; go_simp; rfl) | refine LeftL.tkN 8 rfl HS.out ?_
      (intro K h; go_simp; refine h _ ?_; clear h K)
      first | (refine LeftL.tkG (v := ?_) 9 rfl HS.out ?_ ?_; rotate_left; · intro V hV; obtain ⟨z1, z2, z3, z4, z5, z6, z7⟩ := HFX.out V hV; clear hV; go_simp; rfl) | refine LeftL.tkN 9 rfl HS.out ?_
      (intro K h; go_simp; refine h _ ?_; clear h K)
      first | (refine LeftL.tkG (v := ?_) 10 rfl HS.out ?_ ?_; rotate_left; · intro V hV; obtain ⟨z1, z2, z3, z4, z5, z6, z7⟩ := HFX.out V hV; clear hV; go_simp; rfl) | refine LeftL.tkN 10 rfl HS.out ?_
      (intro K h; go_simp; refine h _ ?_; clear h K)
      first | (refine LeftL.tkG (v := ?_) 11 rfl HS.out ?_ ?_; rotate_left; · intro V hV; obtain ⟨z1, z2, z3, z4, z5, z6, z7⟩ := HFX.out V hV; clear hV; go_simp; rfl) | refine LeftL.tkN 11 rfl HS.out ?_
      (intro K h; go_simp; refine h _ ?_; clear h K)
      first | (refine LeftL.tkG (v := ?_) 12 rfl HS.out ?_ ?_; rotate_left; · intro V hV; obtain ⟨z1, z2, z3, z4, z5, z6, z7⟩ := HFX.out V hV; clear hV; go_simp; rfl) | refine LeftL.tkN 12 rfl HS.out ?_
      (intro K h; go_simp; refine h _ ?_; clear h K)
      first | (refine LeftL.tkG (v := ?_) 13 rfl HS.out ?_ ?_; rotate_left; · intro V hV; obtain ⟨z1, z2, z3, z4, z5, z6, z7⟩ := HFX.out V hV; clear hV; go_simp; rfl) | refine LeftL.tkN 13 rfl HS.out ?_
      (intro K h; go_simp; refine h _ ?_; clear h K)
      first | (refine LeftL.tkG (v := ?_) 14 rfl HS.out ?_ ?_; rotate_left; · intro V hV; obtain ⟨z1, z2, z3, z4, z5, z6, z7⟩ := HFX.out V hV; clear hV; go_simp; rfl) | refine LeftL.tkN 14 rfl HS.out ?_
      (intro K h; go_simp; refine h _ ?_; clear h K)
      first | (refine LeftL.tkG (v := ?_) 15 rfl HS.out ?_ ?_; rotate_left; · intro V hV; obtain ⟨z1, z2, z3, z4, z5, z6, z7⟩ := HFX.out V hV; clear hV; go_simp; rfl) | refine LeftL.tkN 15 rfl HS.out ?_
      (intro K h; go_simp; refine h _ ?_; clear h K)
      first | (refine LeftL.tkG (v := ?_) 16 rfl HS.out ?_ ?_; rotate_left; · intro V hV; obtain ⟨z1, z2, z3, z4, z5, z6, z7⟩ := HFX.out V hV; clear hV; go_simp; rfl) | refine LeftL.tkN 16 rfl HS.out ?_
      (intro K h; go_simp; refine h _ ?_; clear h K)
      first | (refine LeftL.tkG (v := ?_) 17 rfl HS.out ?_ ?_; rotate_left; · intro V hV; obtain ⟨z1, z2, z3, z4, z5, z6, z7⟩ := HFX.out V hV; clear hV; go_simp; rfl) | refine LeftL.tkN 17 rfl HS.out ?_
      (intro K h; go_simp; refine h _ ?_; clear h K)
      first | (refine LeftL.tkG (v := ?_) 18 rfl HS.out ?_ ?_; rotate_left; · intro V hV; obtain ⟨z1, z2, z3, z4, z5, z6, z7⟩ := HFX.out V hV; clear hV; go_simp; rfl) | refine LeftL.tkN 18 rfl HS.out ?_
      (intro K h; go_simp; refine h _ ?_; clear h K)
      first | (refine LeftL.tkG (v := ?_) 19 rfl HS.out ?_ ?_; rotate_left; · intro V hV; obtain ⟨z1, z2, z3, z4, z5, z6, z7⟩ := HFX.out V hV; clear hV; go_simp; rfl) | refine LeftL.tkN 19 rfl HS.out ?_
      (intro K h; go_simp; refine h _ ?_; clear h K)
      first | (refine LeftL.tkG (v := ?_) 20 rfl HS.out ?_ ?_; rotate_left; · intro V hV; obtain ⟨z1, z2, z3, z4, z5, z6, z7⟩ := HFX.out V hV; clear hV; go_simp; rfl) | refine LeftL.tkN 20 rfl HS.out ?_
      (intro K h; go_simp; refine h _ ?_; clear h K)
      first | (refine LeftL.tkG (v := ?_) 21 rfl HS.out ?_ ?_; rotate_left; · intro V hV; obtain ⟨z1, z2, z3, z4, z5, z6, z7⟩ := HFX.out V hV; clear hV; go_simp; rfl) | refine LeftL.tkN 21 rfl HS.out ?_
      (intro K h; go_simp; refine h _ ?_; clear h K)
      first | (refine LeftL.tkG (v := ?_) 22 rfl HS.out ?_ ?_; rotate_left; · intro V hV; obtain ⟨z1, z2, z3, z4, z5, z6, z7⟩ := HFX.out V hV; clear hV; go_simp; rfl) | refine LeftL.tkN 22 rfl HS.out ?_
      (intro K h; go_simp; refine h _ ?_; clear h K)
      first | (refine LeftL.tkG (v := ?_) 23 rfl HS.out ?_ ?_; rotate_left; · intro V hV; obtain ⟨z1, z2, z3, z4, z5, z6, z7⟩ := HFX.out V hV; clear hV; go_simp; rfl) | refine LeftL.tkN 23 rfl HS.out ?_
      (intro K h; go_simp; refine h _ ?_; clear h K)
      first | (refine LeftL.tkG (v := ?_) 24 rfl HS.out ?_ ?_; rotate_left; · intro V hV; obtain ⟨z1, z2, z3, z4, z5, z6, z7⟩ := HFX.out V hV; clear hV; go_simp; rfl) | refine LeftL.tkN 24 rfl HS.out ?_
      (intro K h; go_simp; refine h _ ?_; clear h K)
      first | (refine LeftL.tkG (v := ?_) 25 rfl HS.out ?_ ?_; rotate_left; · intro V hV; obtain ⟨z1, z2, z3, z4, z5, z6, z7⟩ := HFX.out V hV; clear hV; go_simp; rfl) | refine LeftL.tkN 25 rfl HS.out ?_
      (intro K h; go_simp; refine h _ ?_; clear h K)
      first | (refine LeftL.tkG (v := ?_) 26 rfl HS.out ?_ ?_; rotate_left; · intro V hV; obtain ⟨z1, z2, z3, z4, z5, z6, z7⟩ := HFX.out V hV; clear hV; go_simp; rfl) | refine LeftL.tkN 26 rfl HS.out ?_
      (intro K h; go_simp; refine h _ ?_; clear h K)
      first | (refine LeftL.tkG (v := ?_) 27 rfl HS.out ?_ ?_; rotate_left; · intro V hV; obtain ⟨z1, z2, z3, z4, z5, z6, z7⟩ := HFX.out V hV; clear hV; go_simp; rfl) | refine LeftL.tkN 27 rfl HS.out ?_
      (intro K h; go_simp; refine h _ ?_; clear h K)
      first | (refine LeftL.tkG (v := ?_) 28 rfl HS.out ?_ ?_; rotate_left; · intro V hV; obtain ⟨z1, z2, z3, z4, z5, z6, z7⟩ := HFX.out V hV; clear hV; go_simp; rfl) | refine LeftL.tkN 28 rfl HS.out ?_
      (intro K h; go_simp; refine h _ ?_; clear h K)
      refine LeftL.one 29 rfl (by kernel_rfl) ?_
      go_wp2_with fail
      first | refine ⟨fun _ => HS.out, ?_⟩ | refine ⟨HS.out, ?_⟩
      refine LeftL.done (by kernel_rfl) ?_
      have hf := HF.out.call HS.out HF.out.size (by simp)
      clear HF HS HFX
      have HF := Lib.hid hf
      clear hf
      go_wp2_with fail
      go_ret
      exact ⟨by (simp [hne, hki, et]) <;> first | omega | (intro h; exfalso; omega), HF.out⟩
    go_upto_region 4 with fail
    refine wp_region_leftL (fun V => Frm V1.heap.size [] V1 V) 1000 (by kernel_rfl) ?_
    have hS : Frm V1.heap.size [] V1 V1.drew := (Frm.refl _ _ V1).drew
    have HS := Lib.hid hS
    clear hS
    first | (refine LeftL.tkG (v := ?_) 0 rfl HS.out ?_ ?_; rotate_left; · intro V hV; obtain ⟨z1, z2, z3, z4, z5, z6, z7⟩ := HFX.out V hV; clear hV; go_simp; rfl) | refine LeftL.tkN 0 rfl HS.out ?_
    (intro K h; go_simp; refine h _ ?_; clear h K)
    first | (refine LeftL.tkG (v := ?_) 1 rfl HS.out ?_ ?_; rotate_left; · intro V hV; obtain ⟨z1, z2, z3, z4, z5, z6, z7⟩ := HFX.out V hV; clear hV; go_simp; rfl) | refine LeftL.tkN 1 rfl HS.out ?_
    (intro K h; go_simp; refine h _ ?_; clear h K)
    first | (refine LeftL.tkG (v := ?_) 2 rfl HS.out ?_ ?_; rotate_left; · intro V hV; obtain ⟨z1, z2, z3, z4, z5, z6, z7⟩ := HFX.out V hV; clear hV; go_simp; rfl) | refine LeftL.tkN 2 rfl HS.out ?_
    (intro K h; go_simp; refine h _ ?_; clear h K)
    first | (refine LeftL.tkG (v := ?_) 3 rfl HS.out ?_ ?_; rotate_left; · intro V hV; obtain ⟨z1, z2, z3, z4, z5, z6, z7⟩ := HFX.out V hV; clear hV; go_simp; rfl) | refine LeftL.tkN 3 rfl HS.out ?_
    (intro K h; go_simp; refine h _ ?_; clear h K)
    first | (refine LeftL.tkG (v := ?_) 4 rfl HS.out ?_ ?_; rotate_left; · intro V hV; obtain ⟨z1, z2, z3, z4, z5, z6, z7⟩ := HFX.out V hV; clear hV; go_simp; rfl) | refine LeftL.tkN 4 rfl HS.out ?_
    (intro K h; go_simp; refine h _ ?_; clear h K)
    first | (refine LeftL.tkG (v := ?_) 5 rfl HS.out ?_ ?_; rotate_left; · intro V hV; obtain ⟨z1, z2, z3, z4, z5, z6, z7⟩ := HFX.out V hV; clear hV; go_simp; rfl) | refine LeftL.tkN 5 rfl HS.out ?_
    (intro K h; go_simp; refine h _ ?_; clear h K)
    first | (refine LeftL.tkG (v := ?_) 6 rfl HS.out ?_ ?_; rotate_left; · intro V hV; obtain ⟨z1, z2, z3, z4, z5, z6, z7⟩ := HFX.out V hV; clear hV; go_simp; rfl) | refine LeftL.tkN 6 rfl HS.out ?_
    (intro K h; go_simp; refine h _ ?_; clear h K)
    first | (refine LeftL.tkG (v := ?_) 7 rfl HS.out ?_ ?_; rotate_left; · intro V hV; obtain ⟨z1, z2, z3, z4, z5, z6, z7⟩ := HFX.out V hV; clear hV; go_simp; rfl) | refine LeftL.tkN 7 rfl HS.out ?_
    (intro K h; go_simp; refine h _ ?_; clear h K)
    first | (refine LeftL.tkG (v := ?_) 8 rfl HS.out ?_ ?_; rotate_left; · intro V hV; obtain ⟨z1, z2, z3, z4, z5, z6, z7⟩ := HFX.out V hV; clear hV; go_simp; rfl) | refine LeftL.tkN 8 rfl HS.out ?_
    (intro K h; go_simp; refine h _ ?_; clear h K)
    first | (refine LeftL.tkG (v := ?_) 9 rfl HS.out ?_ ?_; rotate_left; · intro V hV; obtain ⟨z1, z2, z3, z4, z5, z6, z7⟩ := HFX.out V hV; clear hV; go_simp; rfl) | refine LeftL.tkN 9 rfl HS.out ?_
    (intro K h; go_simp; refine h _ ?_; clear h K)
    first | (refine LeftL.tkG (v := ?_) 10 rfl HS.out ?_ ?_; rotate_left; · intro V hV; obtain ⟨z1, z2, z3, z4, z5, z6, z7⟩ := HFX.out V hV; clear hV; go_simp; rfl) | refine LeftL.tkN 10 rfl HS.out ?_
    (intro K h; go_simp; refine h _ ?_; clear h K)
    first | (refine LeftL.tkG (v := ?_) 11 rfl HS.out ?_ ?_; rotate_left; · intro V hV; obtain ⟨z1, z2, z3, z4, z5, z6, z7⟩ := HFX.out V hV; clear hV; go_simp; rfl) | refine LeftL.tkN 11 rfl HS.out ?_
    (intro K h; go_simp; refine h _ ?_; clear h K)
    first | (refine LeftL.tkG (v := ?_) 12 rfl HS.out ?_ ?_; rotate_left; · intro V hV; obtain ⟨z1, z2, z3, z4, z5, z6, z7⟩ := HFX.out V hV; clear hV; go_simp; rfl) | refine LeftL.tkN 12 rfl HS.out ?_
    (intro K h; go_simp; refine h _ ?_; clear h K)
    first | (refine LeftL.tkG (v := ?_) 13 rfl HS.out ?_ ?_; rotate_left; · intro V hV; obtain ⟨z1, z2, z3, z4, z5, z6, z7⟩ := HFX.out V hV; clear hV; go_simp; rfl) | refine LeftL.tkN 13 rfl HS.out ?_
    (intro K h; go_simp; refine h _ ?_; clear h K)
    first | (refine LeftL.tkG (v := ?_) 14 rfl HS.out ?_ ?_; rotate_left; · intro V hV; obtain ⟨z1, z2, z3, z4, z5, z6, z7⟩ := HFX.out V hV; clear hV; go_simp; rfl) | refine LeftL.tkN 14 rfl HS.out ?_
    (intro K h; go_simp; refine h _ ?_; clear h K)
    first | (refine LeftL.tkG (v := ?_) 15 rfl HS.out ?_ ?_; rotate_left; · intro V hV; obtain ⟨z1, z2, z3, z4, z5, z6, z7⟩ := HFX.out V hV; clear hV; go_simp; rfl) | refine LeftL.tkN 15 rfl HS.out ?_
    (intro K h; go_simp; refine h _ ?_; clear h K)
    first | (refine LeftL.tkG (v := ?_) 16 rfl HS.out ?_ ?_; rotate_left; · intro V hV; obtain ⟨z1, z2, z3, z4, z5, z6, z7⟩ := HFX.out V hV; clear hV; go_simp; rfl) | refine LeftL.tkN 16 rfl HS.out ?_
    (intro K h; go_simp; refine h _ ?_; clear h K)
    first | (refine LeftL.tkG (v := ?_) 17 rfl HS.out ?_ ?_; rotate_left; · intro V hV; obtain ⟨z1, z2, z3, z4, z5, z6, z7⟩ := HFX.out V hV; clear hV; go_simp; rfl) | refine LeftL.tkN 17 rfl HS.out ?_
    (intro K h; go_simp; refine h _ ?_; clear h K)
    first | (refine LeftL.tkG (v := ?_) 18 rfl HS.out ?_ ?_; rotate_left; · intro V hV; obtain ⟨z1, z2, z3, z4, z5, z6, z7⟩ := HFX.out V hV; clear hV; go_simp; rfl) | refine LeftL.tkN 18 rfl HS.out ?_
    (intro K h; go_simp; refine h _ ?_; clear h K)
    first | (refine LeftL.tkG (v := ?_) 19 rfl HS.out ?_ ?_; rotate_left; · intro V hV; obtain ⟨z1, z2, z3, z4, z5, z6, z7⟩ := HFX.out V hV; clear hV; go_simp; rfl) | refine LeftL.tkN 19 rfl HS.out ?_
    (intro K h; go_simp; refine h _ ?_; clear h K)
    first | (refine LeftL.tkG (v := ?_) 20 rfl HS.out ?_ ?_; rotate_left; · intro V hV; obtain ⟨z1, z2, z3, z4, z5, z6, z7⟩ := HFX.out V hV; clear hV; go_simp; rfl) | refine LeftL.tkN 20 rfl HS.out ?_
    (intro K h; go_simp; refine h _ ?_; clear h K)
    first | (refine LeftL.tkG (v := ?_) 21 rfl HS.out ?_ ?_; rotate_left; · intro V hV; obtain ⟨z1, z2, z3, z4, z5, z6, z7⟩ := HFX.out V hV; clear hV; go_simp; rfl) | refine LeftL.tkN 21 rfl HS.out ?_
    (intro K h; go_simp; refine h _ ?_; clear h K)
    first | (refine LeftL.tkG (v := ?_) 22 rfl HS.out ?_ ?_; rotate_left; · intro V hV; obtain ⟨z1, z2, z3, z4, z5, z6, z7⟩ := HFX.out V hV; clear hV; go_simp; rfl) | refine LeftL.tkN 22 rfl HS.out ?_
    (intro K h; go_simp; refine h _ ?_; clear h K)
    first | (refine LeftL.tkG (v := ?_) 23 rfl HS.out ?_ ?_; rotate_left; · intro V hV; obtain ⟨z1, z2, z3, z4, z5, z6, z7⟩ := HFX.out V hV; clear hV; go_simp; rfl) | refine LeftL.tkN 23 rfl HS.out ?_
    (intro K h; go_simp; refine h _ ?_; clear h K)
    refine LeftL.take 24 rfl (by kernel_rfl) (fun _ _ d _ _ h => by cases d <;> exact h) (yields_loadG (ty := 99) rfl rfl rfl (H99.out)) HS.out ?_; (intro K' hK'; go_simp; refine hK' _ ?_; clear hK' K')
    first | (refine LeftL.tkG (v := ?_) 25 rfl HS.out ?_ ?_; rotate_left; · intro V hV; obtain ⟨z1, z2, z3, z4, z5, z6, z7⟩ := HFX.out V hV; clear hV; go_simp; rfl) | refine LeftL.tkN 25 rfl HS.out ?_
    (intro K h; go_simp; refine h _ ?_; clear h K)
    refine LeftL.take 26 rfl (by kernel_rfl) (fun _ _ d _ _ h => by cases d <;> exact h) (yields_loadG (ty := 24) rfl rfl rfl (H24.out)) HS.out ?_; (intro K' hK'; go_simp; refine hK' _ ?_; clear hK' K')
    refine LeftL.one 27 rfl (by kernel_rfl) ?_
    go_wp2_with fail
    refine (HEN.out _).mono ?_; rintro e w1 ⟨rfl, hf1⟩
    have hS1 := HS.out.call hf1 HS.out.size (by simp)
    clear hf1 HS
    have HS := Lib.hid hS1
    clear hS1
    go_wp2_with fail
    first | refine ⟨fun _ => HS.out, ?_⟩ | refine ⟨HS.out, ?_⟩
    refine LeftL.one 28 rfl (by kernel_rfl) ?_
    go_wp2_with fail
    first | refine ⟨fun _ => HS.out, ?_⟩ | refine ⟨HS.out, ?_⟩
    refine LeftL.one 29 rfl (by kernel_rfl) ?_
    go_wp2_with fail
    first | refine ⟨fun _ => HS.out, ?_⟩ | refine ⟨HS.out, ?_⟩
    refine LeftL.done (by kernel_rfl) ?_
    have hf := HF.out.call HS.out HF.out.size (by simp)
    clear HF HS HFX
    have HF := Lib.hid hf
    clear hf
    go_wp2_with fail
    go_ret
    exact ⟨by (simp [hne, hki, et]) <;> first | omega | (intro h; exfalso; omega), HF.out⟩
  · obtain ⟨T, u, hv, hT⟩ := hpv.2 hki
    subst hv
    have has : ∀ w, (Instr.typeAssert (.iface T u) 96 99 true).run Try.prog w = .ok (.tuple #[.agg #[.int .i64 0], .bool false]) w := fun w => assert99_no w T u hT
    go_wp2_with (with_reducible refine atStore 99 rfl ?_; refine stop_ ?_)
    refine go_on ?_
    refine wpList_storeNew (P := Try.prog) (cs := [.int .i64 0]) rfl rfl rfl rfl rfl info99 (by simp [Value.oneCell']) ?_
    intro V1 hv1 k6 hz; clear hz
    dsimp only [Act.put]
    have hV1 : W.heap.size < V1.heap.size := k6.lt
    have hf2 := HF.out.call hv1 HF.out.size (by simp)
    have k0 := hv1.blk K0.out K0.out.lt (by simp)
    have c0 : V1.cell? ⟨w.heap.size, 0, none⟩ = some (.int .i64 (x : Int)) := k0.cell 0
    have c1 : V1.cell? ⟨w.heap.size, 1, none⟩ = some (.int .i64 tp) := k0.cell 1
    obtain ⟨p6, hp6⟩ : ∃ p, p = W.heap.size := ⟨_, rfl⟩
    rw [← hp6] at k6 hV1 ⊢
    have hfx : ∀ V, Frm V1.heap.size [] V1 V → V.cell? ⟨pk, 0, none⟩ = some (.pointer (some ⟨k, 0, none⟩)) ∧ V.cell? ⟨k, 3, none⟩ = some (.slice (some ⟨eb, eo, none⟩) N ec) ∧ V.cell? ⟨eb, eo + x * 8 + 7, none⟩ = some (.int .i64 ox) ∧ V.cell? ⟨px, 7, none⟩ = some (.int .i64 on) ∧ V.cell? ⟨px, 1, none⟩ = some (.int .i64 tn) ∧ V.cell? ⟨w.heap.size, 0, none⟩ = some (.int .i64 (x : Int)) ∧ V.cell? ⟨w.heap.size, 1, none⟩ = some (.int .i64 tp) := fun V hV => by
      have hV2 := hf2.call hV hf2.size (by simp)
      exact ⟨(hV2.cell (cell_lt CK.out) (by simp)).trans CK.out, (hV2.cell (cell_lt C3.out) (by simp)).trans C3.out, (hV2.cell (cell_lt HCX.out) (by simp)).trans HCX.out, (hV2.cell (cell_lt HX7.out) (by simp)).trans HX7.out, (hV2.cell (cell_lt HX1.out) (by simp)).trans HX1.out, (hV.cell (cell_lt c0) (by simp)).trans c0, (hV.cell (cell_lt c1) (by simp)).trans c1⟩
    have h99 : ∀ V, Frm V1.heap.size [] V1 V → (loadVar 99 ⟨p6, 0, none⟩).run Try.prog V = .ok (.agg #[.int .i64 0]) V := fun V hV => loadVarB (hV.blk k6 k6.lt (by simp)) (P := Try.prog) Try.underlying99 rfl info99
    have h24 : ∀ V, Frm V1.heap.size [] V1 V → (loadVar 24 ⟨px, 0, none⟩).run Try.prog V = .ok (.agg C.toArray) V := fun V hV => HL24.out V (hf2.call hV hf2.size (by simp))
    clear hv1 k0 c0 c1 k6 hp6 HF K0
    have HF := Lib.hid hf2
    have HFX := Lib.hid hfx
    have H99 := Lib.hid h99
    have H24 := Lib.hid h24
    clear h24 h99 hfx hf2
    go_upto_region 4 with fail
    refine wp_region_leftL (fun V => Frm V1.heap.size [] V1 V) 1000 (by kernel_rfl) ?_
    have hS : Frm V1.heap.size [] V1 V1.drew := (Frm.refl _ _ V1).drew
    have HS := Lib.hid hS
    clear hS
    first | (refine LeftL.tkG (v := ?_) 0 rfl HS.out ?_ ?_; rotate_left; · intro V hV; obtain ⟨z1, z2, z3, z4, z5, z6, z7⟩ := HFX.out V hV; clear hV; go_simp; rfl) | refine LeftL.tkN 0 rfl HS.out ?_
    (intro K h; go_simp; refine h _ ?_; clear h K)
    first | (refine LeftL.tkG (v := ?_) 1 rfl HS.out ?_ ?_; rotate_left; · intro V hV; obtain ⟨z1, z2, z3, z4, z5, z6, z7⟩ := HFX.out V hV; clear hV; go_simp; rfl) | refine LeftL.tkN 1 rfl HS.out ?_
    (intro K h; go_simp; refine h _ ?_; clear h K)
    first | (refine LeftL.tkG (v := ?_) 2 rfl HS.out ?_ ?_; rotate_left; · intro V hV; obtain ⟨z1, z2, z3, z4, z5, z6, z7⟩ := HFX.out V hV; clear hV; go_simp; rfl) | refine LeftL.tkN 2 rfl HS.out ?_
    (intro K h; go_simp; refine h _ ?_; clear h K)
    first | (refine LeftL.tkG (v := ?_) 3 rfl HS.out ?_ ?_; rotate_left; · intro V hV; obtain ⟨z1, z2, z3, z4, z5, z6, z7⟩ := HFX.out V hV; clear hV; go_simp; rfl) | refine LeftL.tkN 3 rfl HS.out ?_
    (intro K h; go_simp; refine h _ ?_; clear h K)
    first | (refine LeftL.tkG (v := ?_) 4 rfl HS.out ?_ ?_; rotate_left; · intro V hV; obtain ⟨z1, z2, z3, z4, z5, z6, z7⟩ := HFX.out V hV; clear hV; go_simp; rfl) | refine LeftL.tkN 4 rfl HS.out ?_
    (intro K h; go_simp; refine h _ ?_; clear h K)
    first | (refine LeftL.tkG (v := ?_) 5 rfl HS.out ?_ ?_; rotate_left; · intro V hV; obtain ⟨z1, z2, z3, z4, z5, z6, z7⟩ := HFX.out V hV; clear hV; go_simp; rfl) | refine LeftL.tkN 5 rfl HS.out ?_
    (intro K h; go_simp; refine h _ ?_; clear h K)
    first | (refine LeftL.tkG (v := ?_) 6 rfl HS.out ?_ ?_; rotate_left; · intro V hV; obtain ⟨z1, z2, z3, z4, z5, z6, z7⟩ := HFX.out V hV; clear hV; go_simp; rfl) | refine LeftL.tkN 6 rfl HS.out ?_
    (intro K h; go_simp; refine h _ ?_; clear h K)
    first | (refine LeftL.tkG (v := ?_) 7 rfl HS.out ?_ ?_; rotate_left; · intro V hV; obtain ⟨z1, z2, z3, z4, z5, z6, z7⟩ := HFX.out V hV; clear hV; go_simp; rfl) | refine LeftL.tkN 7 rfl HS.out ?_
    (intro K h; go_simp; refine h _ ?_; clear h K)
    first | (refine LeftL.tkG (v := ?_) 8 rfl HS.out ?_ ?_; rotate_left; · intro V hV; obtain ⟨z1, z2, z3, z4, z5, z6, z7⟩ := HFX.out V hV; clear hV; go_simp; rfl) | refine LeftL.tkN 8 rfl HS.out ?_
    (intro K h; go_simp; refine h _ ?_; clear h K)
    first | (refine LeftL.tkG (v := ?_) 9 rfl HS.out ?_ ?_; rotate_left; · intro V hV; obtain ⟨z1, z2, z3, z4, z5, z6, z7⟩ := HFX.out V hV; clear hV; go_simp; rfl) | refine LeftL.tkN 9 rfl HS.out ?_
    (intro K h; go_simp; refine h _ ?_; clear h K)
    first | (refine LeftL.tkG (v := ?_) 10 rfl HS.out ?_ ?_; rotate_left; · intro V hV; obtain ⟨z1, z2, z3, z4, z5, z6, z7⟩ := HFX.out V hV; clear hV; go_simp; rfl) | refine LeftL.tkN 10 rfl HS.out ?_
    (intro K h; go_simp; refine h _ ?_; clear h K)
    first | (refine LeftL.tkG (v := ?_) 11 rfl HS.out ?_ ?_; rotate_left; · intro V hV; obtain ⟨z1, z2, z3, z4, z5, z6, z7⟩ := HFX.out V hV; clear hV; go_simp; rfl) | refine LeftL.tkN 11 rfl HS.out ?_
    (intro K h; go_simp; refine h _ ?_; clear h K)
    first | (refine LeftL.tkG (v := ?_) 12 rfl HS.out ?_ ?_; rotate_left; · intro V hV; obtain ⟨z1, z2, z3, z4, z5, z6, z7⟩ := HFX.out V hV; clear hV; go_simp; rfl) | refine LeftL.tkN 12 rfl HS.out ?_
    (intro K h; go_simp; refine h _ ?_; clear h K)
    first | (refine LeftL.tkG (v := ?_) 13 rfl HS.out ?_ ?_; rotate_left; · intro V hV; obtain ⟨z1, z2, z3, z4, z5, z6, z7⟩ := HFX.out V hV; clear hV; go_simp; rfl) | refine LeftL.tkN 13 rfl HS.out ?_
    (intro K h; go_simp; refine h _ ?_; clear h K)
    first | (refine LeftL.tkG (v := ?_) 14 rfl HS.out ?_ ?_; rotate_left; · intro V hV; obtain ⟨z1, z2, z3, z4, z5, z6, z7⟩ := HFX.out V hV; clear hV; go_simp; rfl) | refine LeftL.tkN 14 rfl HS.out ?_
    (intro K h; go_simp; refine h _ ?_; clear h K)
    first | (refine LeftL.tkG (v := ?_) 15 rfl HS.out ?_ ?_; rotate_left; · intro V hV; obtain ⟨z1, z2, z3, z4, z5, z6, z7⟩ := HFX.out V hV; clear hV; go_simp; rfl) | refine LeftL.tkN 15 rfl HS.out ?_
    (intro K h; go_simp; refine h _ ?_; clear h K)
    first | (refine LeftL.tkG (v := ?_) 16 rfl HS.out ?_ ?_; rotate_left; · intro V hV; obtain ⟨z1, z2, z3, z4, z5, z6, z7⟩ := HFX.out V hV; clear hV; go_simp; rfl) | refine LeftL.tkN 16 rfl HS.out ?_
    (intro K h; go_simp; refine h _ ?_; clear h K)
    first | (refine LeftL.tkG (v := ?_) 17 rfl HS.out ?_ ?_; rotate_left; · intro V hV; obtain ⟨z1, z2, z3, z4, z5, z6, z7⟩ := HFX.out V hV; clear hV; go_simp; rfl) | refine LeftL.tkN 17 rfl HS.out ?_
    (intro K h; go_simp; refine h _ ?_; clear h K)
    first | (refine LeftL.tkG (v := ?_) 18 rfl HS.out ?_ ?_; rotate_left; · intro V hV; obtain ⟨z1, z2, z3, z4, z5, z6, z7⟩ := HFX.out V hV; clear hV; go_simp; rfl) | refine LeftL.tkN 18 rfl HS.out ?_
    (intro K h; go_simp; refine h _ ?_; clear h K)
    first | (refine LeftL.tkG (v := ?_) 19 rfl HS.out ?_ ?_; rotate_left; · intro V hV; obtain ⟨z1, z2, z3, z4, z5, z6, z7⟩ := HFX.out V hV; clear hV; go_simp; rfl) | refine LeftL.tkN 19 rfl HS.out ?_
    (intro K h; go_simp; refine h _ ?_; clear h K)
    first | (refine LeftL.tkG (v := ?_) 20 rfl HS.out ?_ ?_; rotate_left; · intro V hV; obtain ⟨z1, z2, z3, z4, z5, z6, z7⟩ := HFX.out V hV; clear hV; go_simp; rfl) | refine LeftL.tkN 20 rfl HS.out ?_
    (intro K h; go_simp; refine h _ ?_; clear h K)
    first | (refine LeftL.tkG (v := ?_) 21 rfl HS.out ?_ ?_; rotate_left; · intro V hV; obtain ⟨z1, z2, z3, z4, z5, z6, z7⟩ := HFX.out V hV; clear hV; go_simp; rfl) | refine LeftL.tkN 21 rfl HS.out ?_
    (intro K h; go_simp; refine h _ ?_; clear h K)
    first | (refine LeftL.tkG (v := ?_) 22 rfl HS.out ?_ ?_; rotate_left; · intro V hV; obtain ⟨z1, z2, z3, z4, z5, z6, z7⟩ := HFX.out V hV; clear hV; go_simp; rfl) | refine LeftL.tkN 22 rfl HS.out ?_
    (intro K h; go_simp; refine h _ ?_; clear h K)
    first | (refine LeftL.tkG (v := ?_) 23 rfl HS.out ?_ ?_; rotate_left; · intro V hV; obtain ⟨z1, z2, z3, z4, z5, z6, z7⟩ := HFX.out V hV; clear hV; go_simp; rfl) | refine LeftL.tkN 23 rfl HS.out ?_
    (intro K h; go_simp; refine h _ ?_; clear h K)
    first | (refine LeftL.tkG (v := ?_) 24 rfl HS.out ?_ ?_; rotate_left; · intro V hV; obtain ⟨z1, z2, z3, z4, z5, z6, z7⟩ := HFX.out V hV; clear hV; go_simp; rfl) | refine LeftL.tkN 24 rfl HS.out ?_
    (intro K h; go_simp; refine h _ ?_; clear h K)
    first | (refine LeftL.tkG (v := ?_) 25 rfl HS.out ?_ ?_; rotate_left; · intro V hV; obtain ⟨z1, z2, z3, z4, z5, z6, z7⟩ := HFX.out V hV; clear hV; go_simp; rfl) | refine LeftL.tkN 25 rfl HS.out ?_
    (intro K h; go_simp; refine h _ ?_; clear h K)
    first | (refine LeftL.tkG (v := ?_) 26 rfl HS.out ?_ ?_; rotate_left; · intro V hV; obtain ⟨z1, z2, z3, z4, z5, z6, z7⟩ := HFX.out V hV; clear hV; go_simp; rfl) | refine LeftL.tkN 26 rfl HS.out ?_
    (intro K h; go_simp; refine h _ ?_; clear h K)
    first | (refine LeftL.tkG (v := ?_) 27 rfl HS.out ?_ ?_; rotate_left; · intro V hV; obtain ⟨z1, z2, z3, z4, z5, z6, z7⟩ := HFX.out V hV; clear hV; go_simp; rfl) | refine LeftL.tkN 27 rfl HS.out ?_
    (intro K h; go_simp; refine h _ ?_; clear h K)
    first | (refine LeftL.tkG (v := ?_) 28 rfl HS.out ?_ ?_; rotate_left; · intro V hV; obtain ⟨z1, z2, z3, z4, z5, z6, z7⟩ := HFX.out V hV; clear hV; go_simp; rfl) | refine LeftL.tkN 28 rfl HS.out ?_
    (intro K h; go_simp; refine h _ ?_; clear h K)
    refine LeftL.one 29 rfl (by kernel_rfl) ?_
    go_wp2_with fail
    first | refine ⟨fun _ => HS.out, ?_⟩ | refine ⟨HS.out, ?_⟩
    refine LeftL.done (by kernel_rfl) ?_
    have hf := HF.out.call HS.out HF.out.size (by simp)
    clear HF HS HFX
    have HF := Lib.hid hf
    clear hf
    go_wp2_with fail
    go_ret
    exact ⟨by (simp [hne, hki]) <;> first | omega | (intro h; exfalso; omega), HF.out⟩
end Go.Proofs.Ythgmdilfmeefiaa

namespace Go.Proofs.Ythgmdilfmeefiaa
set_option linter.all false
set_option linter.unusedSimpArgs false
set_option linter.unusedVariables false
open Go.RowKit

theorem any_prf (s : BS) (f : Prf → Bool) : (List.range s.prf.length).any (fun q => f (s.pf q)) = s.prf.any f := by
  rw [Bool.eq_iff_iff, List.any_eq_true, List.any_eq_true]
  constructor
  · rintro ⟨q, hq, h⟩
    have hq : q < s.prf.length := by simpa using hq
    refine ⟨s.prf[q], List.getElem_mem hq, ?_⟩
    unfold BS.pf at h
    rw [List.getD_eq_getElem?_getD, List.getElem?_eq_getElem hq] at h
    exact h
  · rintro ⟨p, hp, h⟩
    obtain ⟨q, hq, rfl⟩ := List.getElem_of_mem hp
    refine ⟨q, by simpa using hq, ?_⟩
    unfold BS.pf
    rw [List.getD_eq_getElem?_getD, List.getElem?_eq_getElem hq]
    exact h
set_option maxRecDepth 100000 in
set_option maxHeartbeats 8000000 in
theorem settled_any {w : World} {k : Nat} {s : BS} {m : Mem} (h : BookAt w k s m) (n : Nat) (hn : n < s.reps.length) :
    Calls Try.prog 68 #[.pointer (some ⟨k, 0, none⟩), .int .i64 (n : Int)] w fun e w' => e = .returned (.bool (settledB s n)) ∧ Frm w.heap.size [] w w' := by
  have hf0 := Try.func68
  obtain ⟨ea, eb, eo, ec, hve, hrw⟩ := h.rwE
  obtain ⟨qa, qb, qo, qc, hvp, hqw⟩ := h.rwP
  have had := hrw.ad (by omega)
  subst had
  have hbk := h.blk
  have hle : s.reps.length ≤ 500 := h.inv.max.1
  have c3 : w.cell? ⟨k, 3, none⟩ = some (.slice (some ⟨eb, eo, none⟩) s.reps.length ec) := by rw [← hve]; exact h.blk.cell 3
  have c5 : w.cell? ⟨k, 5, none⟩ = some (.slice qa s.prf.length qc) := by rw [← hvp]; exact h.blk.cell 5
  have hl81 : ∀ V, Frm w.heap.size [] w V → (loadVar 81 ⟨eb, eo + n * 8, none⟩).run Try.prog V = .ok (.agg (entAt s m n).toArray) V := fun V hV => (hrw.frm hV (Nat.le_refl _)).load (P := Try.prog) Try.underlying81 rfl hn info81
  have hct : ∀ V pn pk px, Frm w.heap.size [] w V → V.cell? ⟨pn, 0, none⟩ = some (.int .i64 (n : Int)) → V.cell? ⟨pk, 0, none⟩ = some (.pointer (some ⟨k, 0, none⟩)) → Blk V px 81 (entAt s m n) →
      Calls Try.prog 94 #[.slice qa s.prf.length qc, .func (.func 95) #[] #[.pointer (some ⟨pn, 0, none⟩), .pointer (some ⟨pk, 0, none⟩), .pointer (some ⟨px, 0, none⟩)]] V fun e w' => e = .returned (.bool (settledB s n)) ∧ Frm V.heap.size [] V w' := fun V pn pk px hV c1 c2 c3 => by
    refine (contQ_any 95 #[.pointer (some ⟨pn, 0, none⟩), .pointer (some ⟨pk, 0, none⟩), .pointer (some ⟨px, 0, none⟩)] (enters Try.func95 (by kernel_rfl) (by kernel_rfl)) qa qb qo s.prf.length qc (prfAt s m) (fun i => rfl) V (hqw.frm hV (Nat.le_refl _)) (fun q => settleB s n (s.pf q)) (fun W hW q hq => ?_)).mono ?_
    · have hW2 := hV.call hW hV.size (by simp)
      exact settledF_any (h.still hW2) n hn pn pk px ((hW.cell (cell_lt c1) (by simp)).trans c1) ((hW.cell (cell_lt c2) (by simp)).trans c2) (hW.blk c3 c3.lt (by simp)) q hq
    · rintro e w' ⟨⟨x, rfl, hx⟩, hf⟩
      exact ⟨by rw [hx.none, any_prf]; rfl, hf⟩
  obtain ⟨E, hE⟩ : ∃ E, E = entAt s m n := ⟨_, rfl⟩
  have hz8 : E.length = 8 := by rw [hE]; rfl
  have he1 : ∀ u ∈ E, u.oneCell' = true := by rw [hE]; simp [entAt, entC, repC, Value.oneCell']
  obtain ⟨N, hN⟩ : ∃ c, c = s.reps.length := ⟨_, rfl⟩
  obtain ⟨M, hM⟩ : ∃ c, c = s.prf.length := ⟨_, rfl⟩
  obtain ⟨res, hres⟩ : ∃ c, c = settledB s n := ⟨_, rfl⟩
  rw [← hE] at hl81 hct
  rw [← hM] at hct c5
  rw [← hN] at c3 hn hle
  rw [← hres] at hct ⊢
  have hkl := hbk.lt
  clear hE hN hM hres hrw hqw hve hvp hbk h
  have hnN : (n : Int) < (N : Int) := by omega
  have HL81 := Lib.hid hl81
  have HCT := Lib.hid hct
  have HZ8 := Lib.hid hz8
  have HE1 := Lib.hid he1
  have HKL := Lib.hid hkl
  have C3 := Lib.hid c3
  have C5 := Lib.hid c5
  have HLE := Lib.hid hle
  have HN := Lib.hid hn
  clear hn hle c5 c3 hkl he1 hz8 hct hl81
  go_enter Try.func68, Try.ntmps68
  go_upto_region 1 with fail
  refine namedC ?_; intro W hW
  have k0 : Blk W w.heap.size 33 [.pointer (some ⟨k, 0, none⟩)] := by rw [hW]; refine Blk.alloc' ?_; exact Blk.new w 33 _
  have k1 : Blk W (w.heap.size + 1) 3 [.int .i64 (n : Int)] := by rw [hW]; exact Blk.new' _ 3 _ (by simp)
  have hf : Frm w.heap.size [] w W := by rw [hW]; repeat (first | with_reducible exact Frm.refl _ _ _ | with_reducible refine Frm.drewN ?_ | with_reducible refine Frm.drew ?_ | ((with_reducible refine Frm.setCell' ?_ ?_); · first | (left; simp; done) | (right; simp; done) | (right; simp; omega)) | ((with_reducible refine Frm.alloc' ?_ ?_); · first | exact Nat.le_refl _ | (simp; done) | (simp; omega)))
  clear hW hf0
  have hfx : ∀ V, Frm W.heap.size [] W V → V.cell? ⟨w.heap.size, 0, none⟩ = some (.pointer (some ⟨k, 0, none⟩)) ∧ V.cell? ⟨w.heap.size + 1, 0, none⟩ = some (.int .i64 (n : Int)) ∧ V.cell? ⟨k, 3, none⟩ = some (.slice (some ⟨eb, eo, none⟩) N ec) := fun V hV => by
    have hV2 := hf.call hV hf.size (by simp)
    exact ⟨(hV.blk k0 k0.lt (by simp)).cell 0, (hV.blk k1 k1.lt (by simp)).cell 0, (hV2.cell (cell_lt C3.out) (by simp)).trans C3.out⟩
  have hl81 : ∀ V, Frm W.heap.size [] W V → (loadVar 81 ⟨eb, eo + n * 8, none⟩).run Try.prog V = .ok (.agg E.toArray) V := fun V hV => HL81.out V (hf.call hV hf.size (by simp))
  have HF := Lib.hid hf
  have HFX := Lib.hid hfx
  have HL2 := Lib.hid hl81
  have K0 := Lib.hid k0
  have K1 := Lib.hid k1
  clear k1 k0 hl81 hfx hf
  refine wp_region_leftL (fun V => Frm W.heap.size [] W V) 1000 (by kernel_rfl) ?_
  have hS : Frm W.heap.size [] W W.drew := (Frm.refl _ _ W).drew
  obtain ⟨W1, hW1⟩ : ∃ V, V = W.drew := ⟨_, rfl⟩
  rw [← hW1] at hS ⊢
  clear hW1
  have HS := Lib.hid hS
  clear hS
  first | (refine LeftL.tkG (v := ?_) 0 rfl HS.out ?_ ?_; rotate_left; · intro V hV; obtain ⟨z1, z2, z3⟩ := HFX.out V hV; clear hV; go_simp; rfl) | refine LeftL.tkN 0 rfl HS.out ?_
  (intro K h; go_simp; refine h _ ?_; clear h K)
  first | (refine LeftL.tkG (v := ?_) 1 rfl HS.out ?_ ?_; rotate_left; · intro V hV; obtain ⟨z1, z2, z3⟩ := HFX.out V hV; clear hV; go_simp; rfl) | refine LeftL.tkN 1 rfl HS.out ?_
  (intro K h; go_simp; refine h _ ?_; clear h K)
  first | (refine LeftL.tkG (v := ?_) 2 rfl HS.out ?_ ?_; rotate_left; · intro V hV; obtain ⟨z1, z2, z3⟩ := HFX.out V hV; clear hV; go_simp; rfl) | refine LeftL.tkN 2 rfl HS.out ?_
  (intro K h; go_simp; refine h _ ?_; clear h K)
  first | (refine LeftL.tkG (v := ?_) 3 rfl HS.out ?_ ?_; rotate_left; · intro V hV; obtain ⟨z1, z2, z3⟩ := HFX.out V hV; clear hV; go_simp; rfl) | refine LeftL.tkN 3 rfl HS.out ?_
  (intro K h; go_simp; refine h _ ?_; clear h K)
  first | (refine LeftL.tkG (v := ?_) 4 rfl HS.out ?_ ?_; rotate_left; · intro V hV; obtain ⟨z1, z2, z3⟩ := HFX.out V hV; clear hV; go_simp; rfl) | refine LeftL.tkN 4 rfl HS.out ?_
  (intro K h; go_simp; refine h _ ?_; clear h K)
  first | (refine LeftL.tkG (v := ?_) 5 rfl HS.out ?_ ?_; rotate_left; · intro V hV; obtain ⟨z1, z2, z3⟩ := HFX.out V hV; clear hV; go_simp; rfl) | refine LeftL.tkN 5 rfl HS.out ?_
  (intro K h; go_simp; refine h _ ?_; clear h K)
  refine LeftL.take 6 rfl (by kernel_rfl) (fun _ _ d _ _ h => by cases d <;> exact h) (yields_loadE (ty := 81) rfl rfl rfl (HL2.out)) HS.out ?_; (intro K' hK'; go_simp; refine hK' _ ?_; clear hK' K')
  refine LeftL.one 7 rfl (by kernel_rfl) ?_
  go_wp2_with fail
  first | refine ⟨fun _ => HS.out.alloc HS.out.size _, ?_⟩ | refine ⟨HS.out.alloc HS.out.size _, ?_⟩
  refine LeftL.one 8 rfl (by kernel_rfl) ?_
  refine wpList_storeNew (P := Try.prog) (cs := E) rfl rfl rfl rfl (by rw [HZ8.out]; rfl) (by rw [HZ8.out]; exact info81) HE1.out ?_
  intro V1 hv1 k5 hz; clear hz
  refine wpList_nil ?_
  have hS2 := HS.out.call hv1 HS.out.size (by simp)
  first | refine ⟨fun _ => hS2, ?_⟩ | refine ⟨hS2, ?_⟩
  refine LeftL.done (by kernel_rfl) ?_
  dsimp only [Act.put]
  have hf := HF.out.call hS2 HF.out.size (by simp)
  have k0 := hS2.blk K0.out K0.out.lt (by simp)
  have k1 := hS2.blk K1.out K1.out.lt (by simp)
  obtain ⟨p5, hp5⟩ : ∃ p, p = W1.heap.size := ⟨_, rfl⟩
  rw [← hp5] at k5 ⊢
  have c0 : V1.cell? ⟨w.heap.size, 0, none⟩ = some (.pointer (some ⟨k, 0, none⟩)) := k0.cell 0
  have c5 : V1.cell? ⟨k, 5, none⟩ = some (.slice qa M qc) := (hf.cell (cell_lt C5.out) (by simp)).trans C5.out
  have hca := HCT.out V1 (w.heap.size + 1) w.heap.size p5 hf (k1.cell 0) c0 k5
  clear hp5 hS2 hv1 HS HF HFX HL2 K0 K1 k0 k1 k5 HCT
  have HF := Lib.hid hf
  have HCA := Lib.hid hca
  clear hca hf
  go_wp2_with fail
  refine HCA.out.mono ?_; rintro e w2 ⟨rfl, hf1⟩
  have hf := HF.out.call hf1 HF.out.size (by simp)
  clear hf1 HF
  have HF := Lib.hid hf
  clear hf
  go_wp2_with fail
  go_ret
  exact ⟨rfl, HF.out⟩
theorem missF_any {w : World} {k : Nat} {s : BS} {m : Mem} (h : BookAt w k s m) (n : Nat) (hn : n < s.reps.length) (pk : Nat) (ck : w.cell? ⟨pk, 0, none⟩ = some (.pointer (some ⟨k, 0, none⟩))) :
    Calls Try.prog 67 #[.int .i64 (n : Int), .pointer (some ⟨pk, 0, none⟩)] w fun e w' => e = .returned (.bool (!settledB s n)) ∧ Frm w.heap.size [] w w' := by
  have hc := settled_any h n hn
  obtain ⟨res, hres⟩ : ∃ c, c = settledB s n := ⟨_, rfl⟩
  rw [← hres] at hc ⊢
  clear hres
  have HC := Lib.hid hc
  clear hc
  go_enter Try.func67, Try.ntmps67
  go_wp2_with fail
  refine HC.out.mono ?_; rintro e w2 ⟨rfl, hf⟩
  have HF := Lib.hid hf
  clear hf
  go_wp2_with fail
  go_ret
  exact ⟨rfl, HF.out⟩
theorem Ints.base {w w0 w' : World} {v : Value} {l : List Nat} (h : Ints w w' v l) (hs : w0.heap.size ≤ w.heap.size) : Ints w0 w' v l := by
  obtain ⟨own, h1, h2⟩ := h
  exact ⟨own, h1, fun b hb => Nat.le_trans hs (h2 b hb)⟩
set_option maxHeartbeats 4000000 in
theorem missing_any {w : World} {k : Nat} {s : BS} {m : Mem} (h : BookAt w k s m) (i : Int) :
    Calls Try.prog 40 #[.pointer (some ⟨k, 0, none⟩), .int .i64 i] w fun e w' => ∃ v, e = .returned v ∧ Ints w w' v (missL s i) ∧ Frm w.heap.size [] w w' := by
  have hf0 := Try.func40
  have hc : ∀ V pk, Frm w.heap.size [] w V → V.cell? ⟨pk, 0, none⟩ = some (.pointer (some ⟨k, 0, none⟩)) → Calls Try.prog 64 #[.pointer (some ⟨k, 0, none⟩), .int .i64 i, .func (.func 67) #[] #[.pointer (some ⟨pk, 0, none⟩)]] V fun e w' => ∃ v, e = .returned v ∧ Ints V w' v (missL s i) ∧ Frm V.heap.size [] V w' := fun V pk hV hp =>
    of_any (h.still hV) i 67 #[.pointer (some ⟨pk, 0, none⟩)] (enters Try.func67 (by kernel_rfl) (by kernel_rfl)) (fun j => !settledB s j) (fun V' hV' j hj => missF_any (h.still (hV.call hV' hV.size (by simp))) j hj pk ((hV'.cell (cell_lt hp) (by simp)).trans hp))
  obtain ⟨L, hL⟩ : ∃ L, L = missL s i := ⟨_, rfl⟩
  rw [← hL] at hc ⊢
  clear hL h
  have HC := Lib.hid hc
  clear hc
  go_enter Try.func40, Try.ntmps40
  go_upto_region 1 with fail
  refine namedC ?_; intro W hW
  have k0 : Blk W w.heap.size 33 [.pointer (some ⟨k, 0, none⟩)] := by rw [hW]; exact Blk.new w 33 _
  have hf : Frm w.heap.size [] w W := by rw [hW]; repeat (first | with_reducible exact Frm.refl _ _ _ | with_reducible refine Frm.drewN ?_ | with_reducible refine Frm.drew ?_ | ((with_reducible refine Frm.setCell' ?_ ?_); · first | (left; simp; done) | (right; simp; done) | (right; simp; omega)) | ((with_reducible refine Frm.alloc' ?_ ?_); · first | exact Nat.le_refl _ | (simp; done) | (simp; omega)))
  clear hW hf0
  have c0 : W.cell? ⟨w.heap.size, 0, none⟩ = some (.pointer (some ⟨k, 0, none⟩)) := k0.cell 0
  have hca := HC.out W w.heap.size hf c0
  clear HC k0
  have HF := Lib.hid hf
  have HCA := Lib.hid hca
  clear hca hf
  go_wp2_with fail
  refine HCA.out.mono ?_; rintro e w1 ⟨v, rfl, hin, hf1⟩
  have hin := hin.base HF.out.size
  have hf := HF.out.call hf1 HF.out.size (by simp)
  clear hf1 HF
  have HIN := Lib.hid hin
  have HF := Lib.hid hf
  clear hf hin
  go_wp2_with fail
  go_ret
  exact ⟨_, rfl, HIN.out, HF.out⟩
end Go.Proofs.Ythgmdilfmeefiaa

namespace Go.Proofs.Ythgmdilfmeefiaa
set_option linter.all false
set_option linter.unusedSimpArgs false
set_option linter.unusedVariables false
open Go.RowKit

theorem place_hit {s : BS} {r : Rep} {j : Nat} (hj : j < s.opn.length) (h : hasI s (j : Int) r 1 = true) (hno : ∀ i : Nat, i < j → hasI s (i : Int) r 1 = false) : placeS s r = (j, 1) := by
  have hf : (List.range s.opn.length).find? (fun (i : Nat) => hasI s (i : Int) r 1) = some j := by
    rw [List.find?_range_eq_some]
    exact ⟨h, by simpa using hj, fun i hi => by rw [hno i hi]; rfl⟩
  unfold placeS
  rw [hf]
theorem place_miss {s : BS} {r : Rep} (hno : ∀ i : Nat, i < s.opn.length → hasI s (i : Int) r 1 = false) : placeS s r = match mayL s r s.opn.length with
    | [] => (s.opn.length, 4)
    | [i] => (i, 2)
    | _ => (s.opn.length, 3) := by
  have hf : (List.range s.opn.length).find? (fun (i : Nat) => hasI s (i : Int) r 1) = none := by
    rw [List.find?_eq_none]
    intro i hi
    rw [hno i (by simpa using hi)]
    simp
  unfold placeS
  rw [hf]
  rfl
theorem bools_flat (l : List Bool) : boolsC l = (List.range l.length).flatMap fun i => [Value.bool (l.getD i false)] := by
  apply List.ext_getElem?
  intro i
  by_cases hi : i < l.length
  · have := flat_at (f := fun i => [Value.bool (l.getD i false)]) (size := 1) (fun i => rfl) l.length i 0 hi (by omega)
    simp only [Nat.mul_one, Nat.add_zero] at this
    rw [this]
    simp [boolsC, List.getElem?_eq_getElem hi, List.getD_eq_getElem?_getD]
  · rw [List.getElem?_eq_none (by simp [boolsC]; omega), List.getElem?_eq_none (by rw [flat_len (f := fun i => [Value.bool (l.getD i false)]) (size := 1) (fun i => rfl)]; omega)]
theorem BookAt.rwO {w : World} {k : Nat} {s : BS} {m : Mem} (h : BookAt w k s m) : ∃ ad b off cap, m.vo = .slice ad s.opn.length cap ∧ Rw w 1 ad b off s.opn.length (fun i => [.bool (s.opn.getD i false)]) := by
  have := h.opn
  rw [bools_flat] at this
  exact this.rw (fun i => rfl)
set_option maxRecDepth 100000 in
set_option maxHeartbeats 16000000 in
theorem place_any {w : World} {k : Nat} {s : BS} {m : Mem} (h : BookAt w k s m) (r : Rep) (ad : Option Addr) (b o cap : Nat) (hok : repB r = true) (hr : RwP w ad b o r.wh.length r.wh) :
    Calls Try.prog 51 #[.pointer (some ⟨k, 0, none⟩), .agg (repC r ad cap).toArray] w fun e w' => e = .returned (.tuple #[.int .i64 ((placeS s r).1 : Int), .int .i64 (placeS s r).2]) ∧ Frm w.heap.size [] w w' := by
  have hf0 := Try.func51
  obtain ⟨i0, hi0, hz0, hz1, hz2⟩ := info_parts3 info3x
  have hca : ∀ V, Frm w.heap.size [] w V → ∀ (j : Nat) (is : Int), Calls Try.prog 63 #[.pointer (some ⟨k, 0, none⟩), .int .i64 (j : Int), .agg (repC r ad cap).toArray, .int .i64 is] V fun e w' => e = .returned (.bool (hasI s (j : Int) r is)) ∧ Frm V.heap.size [] V w' := fun V hV j is =>
    has_any (h.still hV) (j : Int) is r ad b o cap hok (hr.frm hV (Nat.le_refl _))
  obtain ⟨qa, qb, qo, qc, hvo, hqw⟩ := h.rwO
  obtain ⟨n, hn⟩ : ∃ n, n = s.opn.length := ⟨_, rfl⟩
  have hnm : n ≤ 500 := by have := h.inv.opn; have := h.inv.max.1; omega
  have c4 : w.cell? ⟨k, 4, none⟩ = some (.slice qa n qc) := by rw [hn, ← hvo]; exact h.blk.cell 4
  obtain ⟨C, hC⟩ : ∃ E, E = repC r ad cap := ⟨_, rfl⟩
  have hz7 : C.length = 7 := by rw [hC]; rfl
  obtain ⟨hb, hhb⟩ : ∃ f : Nat → Int → Bool, f = fun (j : Nat) (is : Int) => hasI s (j : Int) r is := ⟨_, rfl⟩
  have hhbE : ∀ (j : Nat) (is : Int), hasI s (j : Int) r is = hb j is := fun j is => by rw [hhb]
  obtain ⟨op, hop⟩ : ∃ f : Nat → Bool, f = fun j => s.opn.getD j false := ⟨_, rfl⟩
  have hcell : ∀ V, Frm w.heap.size [] w V → ∀ j, j < n → V.cell? ⟨qb, qo + j, none⟩ = some (.bool (op j)) := fun V hV j hj => by
    have := (hqw.frm hV (Nat.le_refl _)).at_ j (by omega) 0 _ rfl
    rw [Nat.mul_one, Nat.add_zero] at this
    rw [this, hop]
  have hmb : ∀ j, mayB s r j = (op j && hb j 5 && !hb j 2) := fun j => by rw [hop, hhb]; rfl
  have hhit : ∀ j, j < n → hb j 1 = true → (∀ i, i < j → hb i 1 = false) → placeS s r = (j, 1) := fun j hj h1 h2 => by
    rw [hhb] at h1 h2
    exact place_hit (by omega) h1 h2
  have hmiss : (∀ i, i < n → hb i 1 = false) → placeS s r = match selK (mayB s r) n with
    | [] => (n, 4)
    | [i] => (i, 2)
    | _ => (n, 3) := fun h2 => by
    rw [hhb] at h2
    rw [hn]
    exact place_miss (fun i hi => h2 i (by omega))
  obtain ⟨res, hres⟩ : ∃ c, c = placeS s r := ⟨_, rfl⟩
  obtain ⟨mb, hmbe⟩ : ∃ c, c = mayB s r := ⟨_, rfl⟩
  rw [← hmbe] at hmb
  have had : 0 < n → qa = some ⟨qb, qo, none⟩ := fun h => hqw.ad (by omega)
  simp only [← hres] at hhit hmiss ⊢
  rw [← hmbe] at hmiss
  simp only [hhbE] at hca
  rw [← hC] at hca ⊢
  have hkl := h.blk.lt
  clear hres hmbe hhbE hop hhb hC hn hvo hqw h hok hr
  have HCA := Lib.hid hca
  have HI0 := Lib.hid hi0
  have HZ0 := Lib.hid hz0
  have HZ1 := Lib.hid hz1
  have HZ2 := Lib.hid hz2
  have HNM := Lib.hid hnm
  have HCE := Lib.hid hcell
  have HMB := Lib.hid hmb
  have HHIT := Lib.hid hhit
  have HMISS := Lib.hid hmiss
  have HAD := Lib.hid had
  have HZ7 := Lib.hid hz7
  have HKL := Lib.hid hkl
  clear hkl hz7 had hmiss hhit hmb hcell hnm hz2 hz1 hz0 hi0 hca
  go_enter Try.func51, Try.ntmps51
  go_upto_region 1 with fail
  refine namedC ?_; intro W hW
  have k0 : Blk W w.heap.size 24 C := by rw [hW]; exact Blk.new w 24 C
  have hf : Frm w.heap.size [] w W := by rw [hW]; repeat (first | with_reducible exact Frm.refl _ _ _ | with_reducible refine Frm.drewN ?_ | with_reducible refine Frm.drew ?_ | ((with_reducible refine Frm.setCell' ?_ ?_); · first | (left; simp; done) | (right; simp; done) | (right; simp; omega)) | ((with_reducible refine Frm.alloc' ?_ ?_); · first | exact Nat.le_refl _ | (simp; done) | (simp; omega)))
  clear hW hf0
  have c4' : W.cell? ⟨k, 4, none⟩ = some (.slice qa n qc) := (hf.cell HKL.out (by simp)).trans c4
  have hl24 : ∀ V, Frm W.heap.size [] W V → (loadVar 24 ⟨w.heap.size, 0, none⟩).run Try.prog V = .ok (.agg C.toArray) V := fun V hV => load24 (hV.blk k0 k0.lt (by simp)) HZ7.out
  have hca : ∀ V, Frm W.heap.size [] W V → ∀ (j : Nat) (is : Int), Calls Try.prog 63 #[.pointer (some ⟨k, 0, none⟩), .int .i64 (j : Int), .agg C.toArray, .int .i64 is] V fun e w' => e = .returned (.bool (hb j is)) ∧ Frm V.heap.size [] V w' := fun V hV => HCA.out V (hf.call hV hf.size (by simp))
  have hcell : ∀ V, Frm W.heap.size [] W V → ∀ j, j < n → V.cell? ⟨qb, qo + j, none⟩ = some (.bool (op j)) := fun V hV => HCE.out V (hf.call hV hf.size (by simp))
  have hend : ∀ V, Frm W.heap.size [] W V → Frm w.heap.size [] w V := fun V hV => hf.call hV hf.size (by simp)
  have hc4 : ∀ V, Frm W.heap.size [] W V → V.cell? ⟨k, 4, none⟩ = some (.slice qa n qc) := fun V hV => ((hend V hV).cell HKL.out (by simp)).trans c4
  clear hf k0 HCA HCE c4
  have HL24 := Lib.hid hl24
  have HCA := Lib.hid hca
  have HCE := Lib.hid hcell
  have HEND := Lib.hid hend
  have HC4 := Lib.hid hc4
  clear hc4 hend hcell hca hl24
  go_wp2_with fail
  clear c4'
  go_loopw [6, 14] (fun s6 s14 wr => ∃ j : Nat, s14 = .int .i64 j ∧ j ≤ n ∧ (∀ i, i < j → hb i 1 = false) ∧ Ints W wr s6 (selK mb j) ∧ Frm W.heap.size [] W wr) (fun _ s14 _ => n - (intOf s14).toNat)
  case atStart => exact ⟨0, rfl, Nat.zero_le _, fun i hi => absurd hi (by omega), Ints.nil W W, Frm.refl _ _ _⟩
  case round =>
    obtain ⟨j, rfl, hj, hno, hin, hf⟩ := hrel
    obtain ⟨ai, ci, rfl⟩ := hin.form
    by_cases hjl : j < n
    rotate_left
    · have hjl' : ¬ (j : Int) < (n : Int) := by omega
      obtain rfl : j = n := by omega
      have hms := HMISS.out hno
      have c4' : wr.cell? ⟨k, 4, none⟩ = some (.slice qa j qc) := HC4.out wr hf
      obtain ⟨own, hsl, hown⟩ := hin
      rcases hsk : selK mb j with _ | ⟨x, _ | ⟨y, l⟩⟩
      · rw [hsk] at hms
        dsimp only [List.length] at hms ⊢
        have HMS := Lib.hid hms
        have HF := Lib.hid hf
        clear hf hms
        clear hsl hown
        go_wp2_with fail
        refine bodyPost_ret (v := .tuple #[.int .i64 (j : Int), .int .i64 4]) (by simp [results, Try.results51, go_sem]) rfl ?_
        exact ⟨by rw [HMS.out], HEND.out _ HF.out⟩
      · rw [hsk] at hms hsl
        dsimp only [List.length] at hms hsl ⊢
        obtain ⟨ad1, b1, o1, c1, e1, hr1⟩ := ints_at0 hsl
        cases e1
        have had1 := hr1.ad (by omega)
        subst had1
        have cx : wr.cell? ⟨b1, o1, none⟩ = some (.int .i64 (x : Int)) := by
          have := hr1.cellI (i := 0) (by omega)
          rw [Nat.add_zero] at this
          exact this
        have HMS := Lib.hid hms
        have HF := Lib.hid hf
        clear hf hms
        clear hsl hown hr1
        go_wp2_with fail
        refine bodyPost_ret (v := .tuple #[.int .i64 (x : Int), .int .i64 2]) (by simp [results, Try.results51, go_sem]) rfl ?_
        exact ⟨by rw [HMS.out], HEND.out _ HF.out⟩
      · rw [hsk] at hms
        dsimp only [List.length] at hms ⊢
        obtain ⟨g, hg⟩ : ∃ g, g = l.length := ⟨_, rfl⟩
        rw [← hg]
        have hg2 : ¬ ((g + 1 + 1 : Nat) : Int) = 0 := by omega
        have hg3 : ¬ ((g + 1 + 1 : Nat) : Int) = 1 := by omega
        have hg4 : (((g + 1 + 1 : Nat) : Int) == 0) = false := by simp; omega
        have hg5 : (((g + 1 + 1 : Nat) : Int) == 1) = false := by simp; omega
        obtain ⟨G, hG⟩ : ∃ G : Nat, G = g + 1 + 1 := ⟨_, rfl⟩
        rw [← hG] at hg2 hg3 hg4 hg5 ⊢
        have HMS := Lib.hid hms
        have HF := Lib.hid hf
        clear hf hms
        clear hsl hown hg hG
        go_wp2_with fail
        refine bodyPost_ret (v := .tuple #[.int .i64 (j : Int), .int .i64 3]) (by simp [results, Try.results51, go_sem]) rfl ?_
        exact ⟨by rw [HMS.out], HEND.out _ HF.out⟩
    have hjl' : (j : Int) < (n : Int) := by omega
    have had := HAD.out (by omega)
    subst had
    obtain ⟨y4, y5⟩ := wrapUp hjl (by have := HNM.out; unfold maxLen; omega)
    have hms := meas_up hjl
    have hsu := selK_succ mb j
    have hce := HCE.out wr hf j hjl
    have hca1 := HCA.out wr hf j 1
    obtain ⟨opj, hopj⟩ : ∃ c, c = op j := ⟨_, rfl⟩
    have hmbj := HMB.out j
    rw [← hopj] at hce hmbj
    clear hopj
    cases h1 : hb j 1
    rotate_left
    · have hres := HHIT.out j hjl h1 hno
      rw [h1] at hca1
      clear hno hin hsu hmbj
      have HF := Lib.hid hf
      have HCA1 := Lib.hid hca1
      have HRES := Lib.hid hres
      have HMS := Lib.hid hms
      clear hms hres hca1 hf
      go_wp2_with (with_reducible refine atLoad 24 rfl ?_; refine wpList_loadE rfl rfl rfl (HL24.out _ HF.out) ?_)
      refine HCA1.out.mono ?_; rintro e w1 ⟨rfl, hf1⟩
      have hf := HF.out.call hf1 HF.out.size (by simp)
      clear hf1 HF HCA1 hce
      have HF := Lib.hid hf
      clear hf
      go_wp2_with fail
      refine bodyPost_ret (v := .tuple #[.int .i64 (j : Int), .int .i64 1]) (by simp [results, Try.results51, go_sem]) rfl ?_
      exact ⟨by rw [HRES.out], HEND.out _ HF.out⟩
    have hno2 : ∀ i, i < j + 1 → hb i 1 = false := fun i hi => by
      rcases Nat.lt_or_ge i j with e | e
      · exact hno i e
      · obtain rfl : i = j := by omega
        exact h1
    rw [h1] at hca1
    clear hno
    have HF := Lib.hid hf
    have HCA1 := Lib.hid hca1
    have HNO := Lib.hid hno2
    have HIN := Lib.hid hin
    have HMS := Lib.hid hms
    have HSU := Lib.hid hsu
    have HMBJ := Lib.hid hmbj
    have HJL := Lib.hid hjl
    clear hjl hmbj hsu hms hin hno2 hca1 hf
    go_wp2_with (with_reducible refine atLoad 24 rfl ?_; refine wpList_loadE rfl rfl rfl (HL24.out _ HF.out) ?_)
    refine HCA1.out.mono ?_; rintro e w1 ⟨rfl, hf1⟩
    have hf := HF.out.call hf1 HF.out.size (by simp)
    have hin := HIN.out.call hf1
    clear hf1 HF HCA1 hce HIN
    cases opj
    · have hs2 : selK mb (j + 1) = selK mb j := by rw [HSU.out, if_neg (by rw [HMBJ.out]; simp)]
      have HF := Lib.hid hf
      have HIN := Lib.hid hin
      clear hin hf
      go_wp2_with fail
      exact ⟨⟨j + 1, by simp [y4, y5], HJL.out, HNO.out, by rw [hs2]; exact HIN.out, HF.out⟩, by have := HMS.out; simpa [intOf, y4, y5] using this⟩
    have hca5 := HCA.out w1 hf j 5
    cases h5 : hb j 5
    · have hs2 : selK mb (j + 1) = selK mb j := by rw [HSU.out, if_neg (by rw [HMBJ.out, h5]; simp)]
      rw [h5] at hca5
      have HF := Lib.hid hf
      have HIN := Lib.hid hin
      have HCA5 := Lib.hid hca5
      clear hca5 hin hf
      go_wp2_with (with_reducible refine atLoad 24 rfl ?_; refine wpList_loadGE rfl rfl rfl (HL24.out _ HF.out) ?_)
      refine HCA5.out.mono ?_; rintro e w2 ⟨rfl, hf1⟩
      have hf := HF.out.call hf1 HF.out.size (by simp)
      have hin := HIN.out.call hf1
      clear hf1 HF HCA5 HIN
      have HF := Lib.hid hf
      have HIN := Lib.hid hin
      clear hin hf
      go_wp2_with fail
      exact ⟨⟨j + 1, by simp [y4, y5], HJL.out, HNO.out, by rw [hs2]; exact HIN.out, HF.out⟩, by have := HMS.out; simpa [intOf, y4, y5] using this⟩
    rw [h5] at hca5
    have HF := Lib.hid hf
    have HIN := Lib.hid hin
    have HCA5 := Lib.hid hca5
    clear hca5 hin hf
    go_wp2_with (with_reducible refine atLoad 24 rfl ?_; refine wpList_loadGE rfl rfl rfl (HL24.out _ HF.out) ?_)
    refine HCA5.out.mono ?_; rintro e w2 ⟨rfl, hf1⟩
    have hf := HF.out.call hf1 HF.out.size (by simp)
    have hin := HIN.out.call hf1
    clear hf1 HF HCA5 HIN
    have hca2 := HCA.out w2 hf j 2
    cases h2 : hb j 2
    rotate_left
    · have hs2 : selK mb (j + 1) = selK mb j := by rw [HSU.out, if_neg (by rw [HMBJ.out, h2]; simp)]
      rw [h2] at hca2
      have HF := Lib.hid hf
      have HIN := Lib.hid hin
      have HCA2 := Lib.hid hca2
      clear hca2 hin hf
      go_wp2_with (with_reducible refine atLoad 24 rfl ?_; refine wpList_loadGE rfl rfl rfl (HL24.out _ HF.out) ?_)
      refine HCA2.out.mono ?_; rintro e w3 ⟨rfl, hf1⟩
      have hf := HF.out.call hf1 HF.out.size (by simp)
      have hin := HIN.out.call hf1
      clear hf1 HF HCA2 HIN
      have HF := Lib.hid hf
      have HIN := Lib.hid hin
      clear hin hf
      go_wp2_with fail
      exact ⟨⟨j + 1, by simp [y4, y5], HJL.out, HNO.out, by rw [hs2]; exact HIN.out, HF.out⟩, by have := HMS.out; simpa [intOf, y4, y5] using this⟩
    have hs2 : selK mb (j + 1) = selK mb j ++ [j] := by rw [HSU.out, if_pos (by rw [HMBJ.out, h2, h5]; rfl)]
    rw [h2] at hca2
    have hlk := selK_len mb j
    have HF := Lib.hid hf
    have HIN := Lib.hid hin
    have HCA2 := Lib.hid hca2
    have HS2 := Lib.hid hs2
    have HLK := Lib.hid hlk
    clear hlk hs2 hca2 hin hf
    go_wp2_with (with_reducible refine atLoad 24 rfl ?_; refine wpList_loadGE rfl rfl rfl (HL24.out _ HF.out) ?_)
    refine HCA2.out.mono ?_; rintro e w3 ⟨rfl, hf1⟩
    have hf := HF.out.call hf1 HF.out.size (by simp)
    have hin := HIN.out.call hf1
    clear hf1 HF HCA2 HIN
    obtain ⟨own, hsl, hown⟩ := hin
    have HF := Lib.hid hf
    have HSL := Lib.hid hsl
    have HOWN := Lib.hid hown
    clear hown hsl hf
    go_wp2_with (at_builtin; refine hold ?_; intro qG hG)
    refine hG.1 ?_; clear hG qG
    refine wpList_append_sl _ rfl (.tmp 38) (.tmp 40) 42 rfl 3 i0 _ 1 8 Try.underlying42 HI0.out HZ0.out HZ1.out HZ2.out rfl _ _ (intsC (selK mb j)) own rfl (HSL.out.alloc _) ⟨w3.heap.size, 0, none⟩ 1 1 [.int .i64 (j : Int)] rfl rfl (news_alloc _ [.int .i64 (j : Int)] _) (by simp [Value.oneCell']) (by have := HLK.out; have := HNM.out; have := HJL.out; unfold maxLen; omega) (by have := HLK.out; have := HNM.out; have := HJL.out; omega) ?_
    intro v3 w4 own3 hs3 hf3 ho3
    have hf := (HF.out.alloc HF.out.size (.cells [Value.int .i64 (j : Int)].toArray 3)).call hf3 (by have := HF.out.size; simp; omega) (fun x hx hm => by have := HOWN.out x (by simpa using hm); omega)
    have hin : Ints W w4 v3 (selK mb (j + 1)) := by
      rw [HS2.out]
      refine ⟨own3, by rw [intsC_snoc, List.length_append]; exact hs3, fun b hb => ?_⟩
      rcases ho3 with h | ⟨q, h, hq⟩
      · exact HOWN.out b (by rw [← h]; exact hb)
      · rw [hb] at h; cases h; have := HF.out.size; simp at hq; omega
    clear hs3 hf3 ho3 HSL HF HOWN
    have HIN := Lib.hid hin
    have HF := Lib.hid hf
    clear hf hin
    go_wp2_with fail
    exact ⟨⟨j + 1, by simp [y4, y5], HJL.out, HNO.out, HIN.out, HF.out⟩, by have := HMS.out; simpa [intOf, y4, y5] using this⟩
end Go.Proofs.Ythgmdilfmeefiaa
