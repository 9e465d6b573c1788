/-
  Texts J43 of this claim, one behind the other.
-/
import Derived.Test.YthgmdilfmeefiaaBH
namespace Go.Proofs.Ythgmdilfmeefiaa
set_option linter.all false
set_option linter.unusedSimpArgs false
set_option linter.unusedVariables false
open Go.RowKit

theorem take_live' {w V : World} {k : Nat} {s : BS} {m : Mem} (h : Live w V k s m) (r : Rep) (ad : Option Addr) (b o cap : Nat) (hr : RwP V ad b o r.wh.length r.wh) (hbo : 1 ≤ r.wh.length → b ∉ m.own k s) :
    Calls Try.prog 26 #[.pointer (some ⟨k, 0, none⟩), .agg (repC r ad cap).toArray] V fun e V' => e = .returned (.tuple #[.int .i64 (tookS s r).2.1, .int .i64 (tookS s r).2.2.1, .int .i64 (tookS s r).2.2.2]) ∧ ∃ m', Live w V' k (tookS s r).1 m' ∧ Turn k V V' s (tookS s r).1 m m' := by
  by_cases h1 : 1 ≤ r.wh.length
  · exact take_live h r ad b o cap hr (hbo h1)
  · refine take_live h r ad V.heap.size 0 cap ⟨fun h0 => absurd h0 (by omega), hr.len, fun i hi => absurd hi (by omega)⟩ (h.new (Nat.le_refl _))
theorem ActAt.frm {w w' : World} {x : Act_} {q : APos} (h : ActAt w x q) (hf : Frm w.heap.size [] w w') : ActAt w' x q := ⟨h.r.frm hf (Nat.le_refl _), h.p.frm hf (Nat.le_refl _)⟩
theorem ActAt.lt {w : World} {x : Act_} {q : APos} (h : ActAt w x q) (h1 : 1 ≤ x.r.wh.length) : q.rb < w.heap.size := by
  have := cell_lt (h.r.at_ 0 (by omega) 0 _ rfl)
  exact this
theorem Live.args {w V : World} {k : Nat} {s : BS} {m : Mem} (h : Live w V k s m) {x : Act_} {q : APos} (hq : ActAt w x q) : ActAt V x q ∧ (1 ≤ x.r.wh.length → q.rb ∉ m.own k s) :=
  ⟨hq.frm h.frm, fun h1 hm => by have := hq.lt h1; have := h.own _ hm; omega⟩
set_option maxRecDepth 100000 in
set_option maxHeartbeats 8000000 in
theorem does_live {w V : World} {k : Nat} {s : BS} {m : Mem} (h : Live w V k s m) (x : Act_) (q : APos) (hq : ActAt V x q) (hqb : 1 ≤ x.r.wh.length → q.rb ∉ m.own k s) :
    Calls Try.prog 15 #[.pointer (some ⟨k, 0, none⟩), .agg (actC x q).toArray] V fun e V' => e = .returned (.tuple #[.int .i64 (doS s x).2.1, .int .i64 (doS s x).2.2.1, .int .i64 (doS s x).2.2.2]) ∧ ∃ m', Live w V' k (doS s x).1 m' ∧ Turn k V V' s (doS s x).1 m m' := by
  have hf0 := Try.func15
  have hstay : ∀ V', Frm V.heap.size [] V V' → Turn k V V' s s m m := fun V' hf => ⟨hf.narrow (by simp), fun b hb => .inl hb⟩
  have htr : ∀ V1 V2 (s' : BS) m', Frm V.heap.size [] V V1 → Turn k V1 V2 s s' m m' → Turn k V V2 s s' m m' := fun V1 V2 s' m' hf ht => ⟨(hf.narrow (S' := m.own k s) (by simp)).call ht.frm hf.size (fun _ _ h => h), fun b hb => (ht.own b hb).imp id (fun e => Nat.le_trans hf.size e)⟩
  obtain ⟨C, hC⟩ : ∃ c, c = actC x q := ⟨_, rfl⟩
  have h0 : C[0]? = some (.int .i64 x.what) := by rw [hC]; rfl
  have h1 : C[1]? = some (.int .i64 x.n) := by rw [hC]; rfl
  have h2 : C[2]? = some (.int .i64 x.m) := by rw [hC]; rfl
  have hl24 : ∀ U p, Blk U p 41 C → (loadVar 24 ⟨p, 3, none⟩).run Try.prog U = .ok (.agg (repC x.r q.ra q.rc).toArray) U := fun U p hb =>
    run_loadVar_mid U p 3 24 _ _ (fun j v hv => by rw [hb.cell (3 + j), hC]; exact act_rep x q j v hv) Try.underlying24 rfl info24
  have hl39 : ∀ U p, Blk U p 41 C → (loadVar 39 ⟨p, 10, none⟩).run Try.prog U = .ok (.agg (prfA x.p q.pa q.pc).toArray) U := fun U p hb =>
    run_loadVar_mid U p 10 39 _ _ (fun j v hv => by rw [hb.cell (10 + j), hC]; exact act_prf x q j v hv) Try.underlying39 rfl info39
  have hd1 : x.what = 1 → doS s x = ((proveS s x.p).1, 0, 0, (proveS s x.p).2) := fun e => by unfold doS; rw [if_pos e]
  have hd2 : x.what = 2 → doS s x = ((closeS s x.n).1, (closeS s x.n).2.1, 0, (closeS s x.n).2.2) := fun e => by unfold doS; rw [if_neg (by omega), if_pos e]
  have hd3 : x.what = 3 → doS s x = ((joinS s x.n x.m).1, 0, 0, (joinS s x.n x.m).2) := fun e => by unfold doS; rw [if_neg (by omega), if_neg (by omega), if_pos e]
  have hd4 : ¬ x.what = 1 → ¬ x.what = 2 → ¬ x.what = 3 → doS s x = tookS s x.r := fun e1 e2 e3 => by unfold doS; rw [if_neg e1, if_neg e2, if_neg e3]
  have hpr : ∀ U, Frm V.heap.size [] V U → Calls Try.prog 28 #[.pointer (some ⟨k, 0, none⟩), .agg (prfA x.p q.pa q.pc).toArray] U fun e V' => e = .returned (.int .i64 (proveS s x.p).2) ∧ ∃ m', Live w V' k (proveS s x.p).1 m' ∧ Turn k U V' s (proveS s x.p).1 m m' := fun U hU => prove_live (h.still hU) x.p q.pa q.pb q.po q.pc (hq.p.frm hU (Nat.le_refl _))
  have hcl : ∀ U, Frm V.heap.size [] V U → Calls Try.prog 27 #[.pointer (some ⟨k, 0, none⟩), .int .i64 x.n] U fun e V' => e = .returned (.tuple #[.int .i64 (closeS s x.n).2.1, .int .i64 (closeS s x.n).2.2]) ∧ ∃ m', Live w V' k (closeS s x.n).1 m' ∧ Turn k U V' s (closeS s x.n).1 m m' := fun U hU => close_live (h.still hU) x.n
  have hjo : ∀ U, Frm V.heap.size [] V U → Calls Try.prog 34 #[.pointer (some ⟨k, 0, none⟩), .int .i64 x.n, .int .i64 x.m] U fun e V' => e = .returned (.int .i64 (joinS s x.n x.m).2) ∧ ∃ m', Live w V' k (joinS s x.n x.m).1 m' ∧ Turn k U V' s (joinS s x.n x.m).1 m m' := fun U hU =>
    (join_call (h.still hU).at_ x.n x.m).mono fun e V' ⟨h1, m', h2, h3⟩ => ⟨h1, m', (h.still hU).turn h2 h3, h3⟩
  have hta : ∀ U, Frm V.heap.size [] V U → Calls Try.prog 26 #[.pointer (some ⟨k, 0, none⟩), .agg (repC x.r q.ra q.rc).toArray] U fun e V' => e = .returned (.tuple #[.int .i64 (tookS s x.r).2.1, .int .i64 (tookS s x.r).2.2.1, .int .i64 (tookS s x.r).2.2.2]) ∧ ∃ m', Live w V' k (tookS s x.r).1 m' ∧ Turn k U V' s (tookS s x.r).1 m m' := fun U hU => take_live' (h.still hU) x.r q.ra q.rb q.ro q.rc (hq.r.frm hU (Nat.le_refl _)) hqb
  obtain ⟨R, hR⟩ : ∃ c, c = repC x.r q.ra q.rc := ⟨_, rfl⟩
  obtain ⟨P, hP⟩ : ∃ c, c = prfA x.p q.pa q.pc := ⟨_, rfl⟩
  obtain ⟨wh, hwh⟩ : ∃ c, c = x.what := ⟨_, rfl⟩
  obtain ⟨xn, hxn⟩ : ∃ c, c = x.n := ⟨_, rfl⟩
  obtain ⟨xm, hxm⟩ : ∃ c, c = x.m := ⟨_, rfl⟩
  rw [← hR] at hl24
  rw [← hP] at hl39
  simp only [← hR] at hta
  simp only [← hP] at hpr
  rw [← hwh] at h0 hd1 hd2 hd3
  rw [← hwh] at hd4
  rw [← hxn] at h1 hd2 hd3
  rw [← hxm] at h2 hd3
  simp only [← hxn] at hcl hjo
  simp only [← hxm] at hjo
  rw [← hC]
  clear hR hP hwh hxn hxm hC h hq hqb
  have HST := Lib.hid hstay
  have HTR := Lib.hid htr
  have H0 := Lib.hid h0
  have H1 := Lib.hid h1
  have H2 := Lib.hid h2
  have HL24 := Lib.hid hl24
  have HL39 := Lib.hid hl39
  have HD1 := Lib.hid hd1
  have HD2 := Lib.hid hd2
  have HD3 := Lib.hid hd3
  have HD4 := Lib.hid hd4
  have HPR := Lib.hid hpr
  have HCL := Lib.hid hcl
  have HJO := Lib.hid hjo
  have HTA := Lib.hid hta
  clear hta hjo hcl hpr hd4 hd3 hd2 hd1 hl39 hl24 h2 h1 h0 htr hstay
  go_enter Try.func15, Try.ntmps15
  go_upto_region 1 with fail
  refine namedC ?_; intro W hW
  have k0 : Blk W V.heap.size 41 C := by rw [hW]; exact Blk.new V 41 C
  have hf : Frm V.heap.size [] V W := by rw [hW]; repeat (first | with_reducible exact Frm.refl _ _ _ | with_reducible refine Frm.drewN ?_ | with_reducible refine Frm.drew ?_ | ((with_reducible refine Frm.setCell' ?_ ?_); · first | (left; simp; done) | (right; simp; done) | (right; simp; omega)) | ((with_reducible refine Frm.alloc' ?_ ?_); · first | exact Nat.le_refl _ | (simp; done) | (simp; omega)))
  clear hW hf0
  have c0 : W.cell? ⟨V.heap.size, 0, none⟩ = some (.int .i64 wh) := (k0.cell 0).trans H0.out
  have c1 : W.cell? ⟨V.heap.size, 1, none⟩ = some (.int .i64 xn) := (k0.cell 1).trans H1.out
  have c2 : W.cell? ⟨V.heap.size, 2, none⟩ = some (.int .i64 xm) := (k0.cell 2).trans H2.out
  have l24 := HL24.out W _ k0
  have l39 := HL39.out W _ k0
  clear k0
  have HF := Lib.hid hf
  have L24 := Lib.hid l24
  have L39 := Lib.hid l39
  clear l39 l24 hf
  by_cases e1 : wh = 1
  · subst e1
    have hd := HD1.out (by simp)
    have HD := Lib.hid hd
    clear hd
    go_wp2_with (with_reducible refine atLoad 39 rfl ?_; refine wpList_loadE rfl rfl rfl L39.out ?_)
    refine (HPR.out W HF.out).mono ?_; rintro e V' ⟨rfl, m', hl, ht⟩
    have ht := HTR.out _ _ _ _ HF.out ht
    have HLV := Lib.hid hl
    have HT := Lib.hid ht
    clear ht hl
    go_wp2_with fail
    refine bodyPost_ret (v := .tuple #[.int .i64 0, .int .i64 0, .int .i64 (proveS s x.p).2]) (by simp [results, Try.results15, go_sem]) rfl ?_
    rw [HD.out]
    exact ⟨rfl, m', HLV.out, HT.out⟩
  have e1b : (wh == 1) = false := by simp [e1]
  by_cases e2 : wh = 2
  · subst e2
    have hd := HD2.out (by simp)
    have HD := Lib.hid hd
    clear hd
    go_wp2_with fail
    refine (HCL.out W HF.out).mono ?_; rintro e V' ⟨rfl, m', hl, ht⟩
    have ht := HTR.out _ _ _ _ HF.out ht
    have HLV := Lib.hid hl
    have HT := Lib.hid ht
    clear ht hl
    go_wp2_with fail
    refine bodyPost_ret (v := .tuple #[.int .i64 (closeS s xn).2.1, .int .i64 0, .int .i64 (closeS s xn).2.2]) (by simp [results, Try.results15, go_sem]) rfl ?_
    rw [HD.out]
    exact ⟨rfl, m', HLV.out, HT.out⟩
  have e2b : (wh == 2) = false := by simp [e2]
  by_cases e3 : wh = 3
  · subst e3
    have hd := HD3.out (by simp)
    have HD := Lib.hid hd
    clear hd
    go_wp2_with fail
    refine (HJO.out W HF.out).mono ?_; rintro e V' ⟨rfl, m', hl, ht⟩
    have ht := HTR.out _ _ _ _ HF.out ht
    have HLV := Lib.hid hl
    have HT := Lib.hid ht
    clear ht hl
    go_wp2_with fail
    refine bodyPost_ret (v := .tuple #[.int .i64 0, .int .i64 0, .int .i64 (joinS s xn xm).2]) (by simp [results, Try.results15, go_sem]) rfl ?_
    rw [HD.out]
    exact ⟨rfl, m', HLV.out, HT.out⟩
  have e3b : (wh == 3) = false := by simp [e3]
  have hd := HD4.out e1 e2 e3
  have HD := Lib.hid hd
  clear hd
  go_wp2_with (with_reducible refine atLoad 24 rfl ?_; refine wpList_loadE rfl rfl rfl L24.out ?_)
  refine (HTA.out W HF.out).mono ?_; rintro e V' ⟨rfl, m', hl, ht⟩
  have ht := HTR.out _ _ _ _ HF.out ht
  have HLV := Lib.hid hl
  have HT := Lib.hid ht
  clear ht hl
  go_wp2_with fail
  refine bodyPost_ret (v := .tuple #[.int .i64 (tookS s x.r).2.1, .int .i64 (tookS s x.r).2.2.1, .int .i64 (tookS s x.r).2.2.2]) (by simp [results, Try.results15, go_sem]) rfl ?_
  rw [HD.out]
  exact ⟨rfl, m', HLV.out, HT.out⟩
end Go.Proofs.Ythgmdilfmeefiaa
