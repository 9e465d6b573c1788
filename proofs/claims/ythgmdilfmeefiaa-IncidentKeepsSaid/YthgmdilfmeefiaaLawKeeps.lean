/-
  IncidentKeeps: each report that was taken is in just one incident; reports about the same are in one incident, and about different ones never.
-/
import Derived.Test.YthgmdilfmeefiaaJ60
namespace Go.Proofs.Ythgmdilfmeefiaa
set_option linter.all false
set_option linter.unusedSimpArgs false
set_option linter.unusedVariables false
open Go.ChangeShapes Go.WideShapes Go.ChangeAt Go.RowKit
attribute [local go_sem ↓ high] run_min_ run_max_ run_min2 run_max2
set_option maxRecDepth 100000 in
set_option maxHeartbeats 16000000 in
theorem keeps_walk (wd dr : Int) (ad : Option Addr) (len cap b off : Nat) (A : Nat → Act_ × APos) (w : World) (hr : RwA w ad b off len A) (ha : ∀ i, i < len → ActAt w (A i).1 (A i).2) :
    Calls Try.prog 4 #[.int .i64 wd, .int .i64 dr, .slice ad len cap] w fun e w' => e = .returned (.bool true) ∧ Frm w.heap.size [] w w' := by
  have hf0 := Try.func4
  have hlen := hr.len
  have had := hr.ad
  have hgr := greats_any ad b off len cap A w hr
  have HR := Lib.hid hr
  have HA := Lib.hid ha
  have HLEN := Lib.hid hlen
  have HAD := Lib.hid had
  have HGR := Lib.hid hgr
  clear hgr had hlen ha hr
  go_enter Try.func4, Try.ntmps4
  go_wp2_with fail
  refine HGR.out.mono ?_; rintro e w1 ⟨he, hf⟩
  rcases he with rfl | ⟨rfl, h60⟩
  · have HF := Lib.hid hf
    clear hf
    go_wp2_with fail
    refine (awake_any w1).mono ?_; rintro e wz ⟨rfl, hf1⟩
    have hf := HF.out.call hf1 HF.out.size (by simp)
    clear hf1 HF
    have HF := Lib.hid hf
    clear hf
    go_wp2_with fail
    go_ret
    exact ⟨rfl, HF.out⟩
  have HF := Lib.hid hf
  have H60 := Lib.hid h60
  clear h60 hf
  go_wp2_with fail
  cases hru : rulesB wd dr
  · refine (new_any wd dr w1).mono ?_; rintro e w2 ⟨he, hf1⟩
    rw [hru] at he
    rw [if_neg (by simp)] at he
    subst he
    have hf := HF.out.call hf1 HF.out.size (by simp)
    clear hf1 HF
    have HF := Lib.hid hf
    have HRU := Lib.hid hru
    clear hru hf
    go_wp2_with fail
    refine (awake_any w2).mono ?_; rintro e wz ⟨rfl, hf1⟩
    have hf := HF.out.call hf1 HF.out.size (by simp)
    clear hf1 HF
    have HF := Lib.hid hf
    clear hf
    go_wp2_with fail
    go_ret
    exact ⟨rfl, HF.out⟩
  refine (new_live wd dr hru HF.out).mono ?_; rintro e w2 ⟨k, rfl, hlv, hf1, hk⟩
  clear hf1 hk
  have HL := Lib.hid hlv
  have HRU := Lib.hid hru
  clear hru hlv
  go_upto_region 7 with fail
  iterate 7 go_step
  go_cut [9, 10, 11, 12, 13, 14] from 51 to 91 (fun s9 s10 s11 s12 s13 s14 w' => ∃ (mo : Nat) (s : BS) (m : Mem), s9 = .int .i64 (s.reps.length : Int) ∧ s10 = .int .i64 mo ∧ Live w w' k s m ∧ KInv s ∧ s.opn.length ≤ mo + 1 ∧ s.reps.length ≤ 60 ∧ mo ≤ 60)
  case first =>
   as_aux_lemma =>
    go_wp2_with fail
    go_loopw [9, 10, 11] (fun s9 s10 s11 wr => ∃ (i mo : Nat) (s : BS) (m : Mem), s9 = .int .i64 (s.reps.length : Int) ∧ s10 = .int .i64 mo ∧ s11 = .int .i64 i ∧ i ≤ len ∧ Live w wr k s m ∧ KInv s ∧ s.opn.length ≤ mo + 1 ∧ s.reps.length ≤ i ∧ mo ≤ i) (fun _ _ s11 _ => len - (intOf s11).toNat)
    case atStart => exact ⟨0, 0, _, _, rfl, rfl, rfl, Nat.zero_le _, HL.out, empty_k _ _, by simp [emptyS], by simp [emptyS], Nat.le_refl _⟩
    case round =>
      clear HL HF
      obtain ⟨i, mo, s, m, rfl, rfl, rfl, hi, hlv, hki, hop, hri, hmi⟩ := hrel
      by_cases hil : i < len
      · have hil' : (i : Int) < (len : Int) := by omega
        have had := HAD.out (by omega)
        subst had
        obtain ⟨y4, y5⟩ := wrapUp hil HLEN.out
        have hms := meas_up hil
        obtain ⟨x, hx⟩ : ∃ x, x = (A i).1 := ⟨_, rfl⟩
        obtain ⟨q, hq⟩ : ∃ x, x = (A i).2 := ⟨_, rfl⟩
        have hact : ActAt w x q := by rw [hx, hq]; exact HA.out i hil
        obtain ⟨C, hC⟩ : ∃ c, c = actC x q := ⟨_, rfl⟩
        have hcl : C.length = 16 := by rw [hC]; rfl
        have hat : ∀ V, Frm w.heap.size [] w V → ∀ (j : Nat) (v : Value), C[j]? = some v → V.cell? ⟨b, off + i * 16 + j, none⟩ = some v := fun V hV j v hv => (HR.out.frm hV (Nat.le_refl _)).at_ i hil j v (by rw [← hx, ← hq, ← hC]; exact hv)
        have hc0 : C[0]? = some (.int .i64 x.what) := by rw [hC]; rfl
        have hc1 : C[1]? = some (.int .i64 x.n) := by rw [hC]; rfl
        have hc2 : C[2]? = some (.int .i64 x.m) := by rw [hC]; rfl
        have hdo : ∀ V s m, Live w V k s m → Calls Try.prog 15 #[.pointer (some ⟨k, 0, none⟩), .agg C.toArray] V fun e V' => e = .returned (.tuple #[.int .i64 (doS s x).2.1, .int .i64 (doS s x).2.2.1, .int .i64 (doS s x).2.2.2]) ∧ ∃ m', Live w V' k (doS s x).1 m' ∧ Turn k V V' s (doS s x).1 m m' := fun V s m h => by
          rw [hC]; exact does_live h x q (h.args hact).1 (h.args hact).2
        have hl41 : (loadVar 41 ⟨b, off + i * 16, none⟩).run Try.prog wr = .ok (.agg C.toArray) wr := run_loadVar_mid wr b (off + i * 16) 41 C _ (fun j v hv => hat _ hlv.frm j v hv) Try.underlying41 rfl (by rw [hcl]; exact info41)
        obtain ⟨T, hT⟩ : ∃ c, c = s.reps.length := ⟨_, rfl⟩
        rw [← hT]
        have hi60 : i < 60 := by have := H60.out; omega
        clear hx hq hC hact
        have HL := Lib.hid hlv
        have HMS := Lib.hid hms
        have HAT := Lib.hid hat
        have HCL := Lib.hid hcl
        have HC0 := Lib.hid hc0
        have HC1 := Lib.hid hc1
        have HC2 := Lib.hid hc2
        have HDO := Lib.hid hdo
        have HIL := Lib.hid hil
        have HL41 := Lib.hid hl41
        have HKI := Lib.hid hki
        have HOP := Lib.hid hop
        have HRI := Lib.hid hri
        have HMI := Lib.hid hmi
        have HT := Lib.hid hT
        have HI60 := Lib.hid hi60
        clear hi60 hT hmi hri hop hki hl41 hil hdo hc2 hc1 hc0 hcl hat hms hlv
        go_wp2_with (with_reducible refine atLoad 41 rfl ?_; refine wpList_loadE rfl rfl rfl HL41.out ?_)
        refine (HDO.out wr s m HL.out).mono ?_; rintro e V1 ⟨rfl, m', hlv, ht⟩
        have hinv := HL.out.at_.inv
        have hk2 := do_k hinv HKI.out x
        have hdl := do_lens s x
        obtain ⟨s', hs'⟩ : ∃ z, z = (doS s x).1 := ⟨_, rfl⟩
        obtain ⟨f, hfe⟩ : ∃ c, c = (doS s x).2.2.2 := ⟨_, rfl⟩
        obtain ⟨n, hne⟩ : ∃ c, c = (doS s x).2.1 := ⟨_, rfl⟩
        rw [← hfe, ← hne]
        rw [← hs'] at hlv hk2 hdl
        rw [← hfe] at hdl
        have c0 : V1.cell? ⟨b, off + i * 16, none⟩ = some (.int .i64 x.what) := HAT.out _ hlv.frm 0 _ HC0.out
        obtain ⟨wh, hwh⟩ : ∃ c, c = x.what := ⟨_, rfl⟩
        rw [← hwh] at c0 hdl
        have hno : ¬ (f = 0 ∧ ¬ (1 ≤ wh ∧ wh ≤ 3)) → ∃ (i_1 mo_1 : Nat) (s_1 : BS) (m_1 : Mem), Value.int .i64 (T : Int) = .int .i64 (s_1.reps.length : Int) ∧ Value.int .i64 (mo : Int) = .int .i64 mo_1 ∧ Value.int .i64 ((i : Int) + 1) = .int .i64 i_1 ∧ i_1 ≤ len ∧ Live w V1 k s_1 m_1 ∧ KInv s_1 ∧ s_1.opn.length ≤ mo_1 + 1 ∧ s_1.reps.length ≤ i_1 ∧ mo_1 ≤ i_1 := fun h0 => by
          rcases hdl with h1 | ⟨h1, h2⟩
          · exact absurd h1 h0
          · exact ⟨i + 1, mo, s', m', by rw [h1, HT.out], rfl, by simp, HIL.out, hlv, hk2, by have := HOP.out; omega, by have := HRI.out; omega, by have := HMI.out; omega⟩
        have hyes : f = 0 → ¬ (1 ≤ wh ∧ wh ≤ 3) → ∃ N : Nat, n = (N : Int) ∧ N ≤ 60 ∧ ∃ (i_1 mo_1 : Nat) (s_1 : BS) (m_1 : Mem), Value.int .i64 ((T : Int) + 1) = .int .i64 (s_1.reps.length : Int) ∧ Value.int .i64 (max (mo : Int) (min (N : Int) 100)) = .int .i64 mo_1 ∧ Value.int .i64 ((i : Int) + 1) = .int .i64 i_1 ∧ i_1 ≤ len ∧ Live w V1 k s_1 m_1 ∧ KInv s_1 ∧ s_1.opn.length ≤ mo_1 + 1 ∧ s_1.reps.length ≤ i_1 ∧ mo_1 ≤ i_1 := fun h1 h2 => by
          obtain ⟨_, _, htd⟩ := took_ok (s := s) (x := x) (by rw [← hwh]; exact h2) (by rw [← hfe]; exact h1)
          have hsT : s' = takenS s x.r (placeS s x.r).1 := by rw [hs', htd]
          have hnT : n = ((placeS s x.r).1 : Int) := by rw [hne, htd]
          have hle := place_le s x.r
          have hol := hinv.opn
          have g1 := HRI.out
          have g2 := HI60.out
          have g3 := HOP.out
          have g4 := HMI.out
          have hlo : s'.opn.length = if (placeS s x.r).1 = s.opn.length then s.opn.length + 1 else s.opn.length := by
            rw [hsT]
            unfold takenS
            by_cases e : (placeS s x.r).1 = s.opn.length <;> simp [e]
          have hlr : s'.reps.length = s.reps.length + 1 := by rw [hsT]; exact taken_len _ _ _
          refine ⟨(placeS s x.r).1, hnT, by omega, i + 1, max mo (placeS s x.r).1, s', m', by rw [hlr, HT.out]; rfl, ?_, by simp, HIL.out, hlv, hk2, ?_, by omega, by omega⟩
          · congr 1; omega
          · rw [hlo]; split <;> omega
        obtain ⟨q4, q5⟩ := wrapUp (k := T) (n := 501) (by have := HT.out; have := hinv.max.1; omega) (by decide)
        clear ht HL HL41 hlv hk2 hdl hs' hfe hne hinv
        have HNO := Lib.hid hno
        have HYES := Lib.hid hyes
        have HWH := Lib.hid hwh
        clear hwh hyes hno
        by_cases hf0 : f = 0
        rotate_left
        · have hf1 : (f == 0) = false := by simp [hf0]
          have hfin := HNO.out (fun h => hf0 h.1)
          have HFIN := Lib.hid hfin
          clear hfin
          go_wp2_with fail
          exact ⟨by simpa [y4, y5] using HFIN.out, by have := HMS.out; simpa [intOf, y4, y5] using this⟩
        by_cases hw1 : wh < 1
        · obtain ⟨N, rfl, hN, hfin⟩ := HYES.out hf0 (by omega)
          subst hf0
          have HFIN := Lib.hid hfin
          have HN := Lib.hid hN
          clear hN hfin
          go_wp2_with fail
          have hfin := HFIN.out
          exact ⟨by simpa [y4, y5, q4, q5] using hfin, by have := HMS.out; simpa [intOf, y4, y5] using this⟩
        by_cases hw3 : 3 < wh
        · obtain ⟨N, rfl, hN, hfin⟩ := HYES.out hf0 (by omega)
          subst hf0
          have HFIN := Lib.hid hfin
          have HN := Lib.hid hN
          clear hN hfin
          go_wp2_with fail
          have hfin := HFIN.out
          exact ⟨by simpa [y4, y5, q4, q5] using hfin, by have := HMS.out; simpa [intOf, y4, y5] using this⟩
        have hfin := HNO.out (fun h => h.2 (by omega))
        subst hf0
        have HFIN := Lib.hid hfin
        clear hfin
        go_wp2_with fail
        exact ⟨by simpa [y4, y5] using HFIN.out, by have := HMS.out; simpa [intOf, y4, y5] using this⟩
      · have hil' : ¬ (i : Int) < (len : Int) := by omega
        obtain rfl : i = len := by omega
        have hin60 := H60.out
        have hrel : ∃ (mo_1 : Nat) (s_1 : BS) (m_1 : Mem), Value.int .i64 (s.reps.length : Int) = .int .i64 (s_1.reps.length : Int) ∧ Value.int .i64 (mo : Int) = .int .i64 mo_1 ∧ Live w wr k s_1 m_1 ∧ KInv s_1 ∧ s_1.opn.length ≤ mo_1 + 1 ∧ s_1.reps.length ≤ 60 ∧ mo_1 ≤ 60 := ⟨mo, s, m, rfl, rfl, hlv, hki, hop, by omega, by omega⟩
        obtain ⟨T, hT⟩ : ∃ c, c = s.reps.length := ⟨_, rfl⟩
        rw [← hT] at hrel ⊢
        clear hlv hki hop hri hmi hT
        have HREL := Lib.hid hrel
        clear hrel
        go_wp2_with fail
        go_meet
        case rel => exact HREL.out
  obtain ⟨mo, s, m, rfl, rfl, hlv, hki, hop, hri, hmo60⟩ := hcut
  obtain ⟨V0, hV0⟩ : ∃ V, V = wc := ⟨_, rfl⟩
  rw [← hV0] at hlv ⊢
  clear hV0
  have hinv := hlv.at_.inv
  have hall := cntK_all hinv hop
  obtain ⟨T, hT⟩ : ∃ c, c = s.reps.length := ⟨_, rfl⟩
  have hT60 : T ≤ 60 := by rw [hT]; exact hri
  have hcle : ∀ k, cntK s k ≤ 500 := fun k => by
    rw [cntK_is]
    have h1 := List.length_filter_le (fun j => decide (s.o j < k)) (List.range s.reps.length)
    have h2 := hinv.max.1
    simp only [List.length_range] at h1
    omega
  have hrep : ∀ V, Frm V0.heap.size [] V0 V → ∀ y, y < T → Calls Try.prog 17 #[.pointer (some ⟨k, 0, none⟩), .int .i64 (y : Int)] V fun e w' => (∃ b' o' c', e = .returned (.tuple #[.agg (repC (s.rp y) (some ⟨b', o', none⟩) c').toArray, .int .i64 (s.o y : Int), .int .i64 0])) ∧ Frm V.heap.size [] V w' := fun V hV y hy =>
    (report_yes (hlv.at_.still hV) (by omega)).mono fun e w' ⟨⟨b', o', c', g1, _⟩, g2⟩ => ⟨⟨b', o', c', g1⟩, g2⟩
  have hreps : ∀ V, Frm V0.heap.size [] V0 V → ∀ n : Nat, Calls Try.prog 16 #[.pointer (some ⟨k, 0, none⟩), .int .i64 (n : Int)] V fun e w' => ∃ v er, e = .returned (.tuple #[v, .int .i64 er]) ∧ Ints V w' v (ofL s (n : Int)) ∧ Frm V.heap.size [] V w' := fun V hV n =>
    (reports_call (hlv.at_.still hV) (n : Int)).mono fun e w' ⟨v, g1, g2, g3⟩ => ⟨v, _, g1, by rw [← reports_len hinv]; exact g2, g3⟩
  have hofm : ∀ (n : Nat) y, y ∈ ofL s (n : Int) → y < T ∧ (s.o y : Int) = (n : Int) := fun n y hy => by rw [hT]; exact of_mem.1 hy
  have hofl : ∀ n : Nat, (ofL s (n : Int)).length ≤ 500 := fun n => by
    unfold ofL
    have h1 := List.length_filter_le (fun j => decide ((s.o j : Int) = (n : Int))) (List.range s.reps.length)
    have h2 := hinv.max.1
    simp only [List.length_range] at h1
    omega
  rw [← hT] at hall ⊢
  have hk1 := hki.k1
  have hk2 := hki.k2
  rw [← hT] at hk1 hk2
  have hfw := hlv.frm
  clear hlv hinv hki hop hri HL HF
  have HALL := Lib.hid hall
  have HT := Lib.hid hT
  have HT60 := Lib.hid hT60
  have HMO60 := Lib.hid hmo60
  have HCLE := Lib.hid hcle
  have HREP := Lib.hid hrep
  have HREPS := Lib.hid hreps
  have HOFM := Lib.hid hofm
  have HOFL := Lib.hid hofl
  have HK1 := Lib.hid hk1
  have HK2 := Lib.hid hk2
  have HFW := Lib.hid hfw
  clear hfw hk2 hk1 hofl hofm hreps hrep hcle hmo60 hT60 hT hall
  go_upto_region 15 with fail
  iterate 7 go_step
  go_cut [15, 16, 17, 18, 19, 20, 21, 22, 23, 24, 25, 26] from 91 to 170 (fun s15 s16 s17 s18 s19 s20 s21 s22 s23 s24 s25 s26 w' => s15 = .int .i64 (T : Int) ∧ Frm V0.heap.size [] V0 w')
  case first =>
   as_aux_lemma =>
    go_wp2_with fail
    go_loopw [15, 16] (fun s15 s16 wr => ∃ n : Nat, s15 = .int .i64 (cntK s n : Int) ∧ s16 = .int .i64 n ∧ n ≤ mo + 1 ∧ Frm V0.heap.size [] V0 wr) (fun _ s16 _ => mo + 1 - (intOf s16).toNat)
    case atStart => exact ⟨0, rfl, rfl, Nat.zero_le _, Frm.refl _ _ _⟩
    case round =>
      obtain ⟨n, rfl, rfl, hn, hf⟩ := hrel
      by_cases hnl : n ≤ mo
      rotate_left
      · have hnl' : ¬ (n : Int) ≤ (mo : Int) := by omega
        obtain rfl : n = mo + 1 := by omega
        rw [HALL.out]
        have hcast : (((mo + 1 : Nat)) : Int) = (mo : Int) + 1 := by omega
        obtain ⟨M1, hM1⟩ : ∃ c : Int, c = ((mo + 1 : Nat) : Int) := ⟨_, rfl⟩
        rw [← hM1] at hnl' ⊢
        clear hcast hM1
        have HF := Lib.hid hf
        clear hf
        go_wp2_with fail
        go_meet
        case rel => exact ⟨rfl, HF.out⟩
      have hnl' : (n : Int) ≤ (mo : Int) := by omega
      obtain ⟨z4, z5⟩ := wrapUp (k := n) (n := mo + 1) (by omega) (by have := HMO60.out; unfold maxLen; omega)
      have hms2 : mo + 1 - ((n : Int) + 1).toNat < mo + 1 - ((n : Int)).toNat := by omega
      have hnm : n + 1 ≤ mo + 1 := by omega
      have HF := Lib.hid hf
      have HMS2 := Lib.hid hms2
      have HNM := Lib.hid hnm
      clear hnm hms2 hf
      go_wp2_with fail
      refine (HREPS.out wr HF.out n).mono ?_; rintro e V1 ⟨v, er, rfl, hin, hf1⟩
      have hf := HF.out.call hf1 HF.out.size (by simp)
      obtain ⟨L, hL⟩ : ∃ L, L = ofL s (n : Int) := ⟨_, rfl⟩
      have hLm := HOFM.out n
      have hLl := HOFL.out n
      have hso : ∀ a b, a < b → b < (ofL s (n : Int)).length → (ofL s (n : Int)).getD a 0 < (ofL s (n : Int)).getD b 0 := fun a b h1 h2 => of_sorted s (n : Int) h1 h2
      rw [← hL] at hin hLm hLl
      simp only [← hL] at hso
      obtain ⟨ma, mc, rfl⟩ := hin.form
      have hct : cntK s (n + 1) = cntK s n + L.length := by rw [hL]; rfl
      have hc5 := HCLE.out (n + 1)
      obtain ⟨M, hM⟩ : ∃ c, c = L.length := ⟨_, rfl⟩
      obtain ⟨c0, hc0⟩ : ∃ c, c = cntK s n := ⟨_, rfl⟩
      rw [← hM] at hct hLl ⊢
      rw [← hc0] at hct ⊢
      have w4 : IntKind.i64.wrap ((c0 : Int) + (M : Int)) = (c0 : Int) + (M : Int) := IntWalk.i64_in _ (by omega)
      have w5 : wrap64 ((c0 : Int) + (M : Int)) = (c0 : Int) + (M : Int) := IntWalk.wrap64_in _ (by omega)
      clear hf1 HF hc5 hc0 hL
      have HF := Lib.hid hf
      have HIN := Lib.hid hin
      have HLM := Lib.hid hLm
      have HLL := Lib.hid hLl
      have HSO := Lib.hid hso
      have HCT := Lib.hid hct
      have HM := Lib.hid hM
      clear hM hct hso hLl hLm hin hf
      have W4 := Lib.hid w4
      have W5 := Lib.hid w5
      have Z4 := Lib.hid z4
      have Z5 := Lib.hid z5
      clear z5 z4 w5 w4
      go_wp2_with fail
      refine Code.wp_mono (fun e a w h => NoP.out e a w h) (k3_loop s k n T V0 V1 _ L M ma mc HF.out HIN.out HLM.out HLL.out HSO.out HM.out HREP.out HK1.out _ _ _ _ _ _ _ _ _ _ _ _ _ _ _ _ _ _ _ _ _ _ _ _ _ _ _ _ _ _ _ _ _ _ _ _ _ _ _ _ _ _ _ _ _ _ _ _ _ _ _ _ _ _ _ _ _ _ _ _ _ _ _ _ _ _ _ _ _ _ _ _ _ _ _ _ _ _ _ _ _ _ _ _ _ _ _ _ _ _ _ _ _ _ _ _ _ _ _ _ _ _ _ _ _ _ _ _ _ _ _ _ _ _ _ _ _ _ _ _ _ _ _ _ _ _ _ _ _ _ _ _ _ _ _ _ _ _ _ _ _ _ _ _ _ _ _ _ _ _ _ _ _ _ _ _ _ _ _ _ _ _ _ _ _ _ _ _ _ _ _ _ _ _ _ _ _ _ _ _ _ _ _ _ _ _ _ _ _ _ _ _ _ _ _ _ _ _ _ _ _ _ _ _ _ _ _ _ _ _ _ _ ?_)
      intro uv6 uv19 uv20 uv21 uv22 uv23 uv24 uv25 uv26 uv106 uv107 uv108 uv109 uv110 uv111 uv112 uv113 uv114 uv115 uv116 uv117 uv118 uv119 uv120 uv121 uv122 uv123 uv124 uv125 uv126 uv127 uv128 uv129 uv130 uv131 uv132 uv133 uv134 uv135 uv136 uv137 uv138 uv139 uv140 uv141 uv142 uv143 uv144 uv145 uv146 uv147 uv148 uv149 uv150 uv151 uv152 uv153 uv154 uv155 uv156 uv157 uv158 uv159 uv160 uv161 uv162 uv163 uv164 uv165 uv166 uv167 uv168 uv169 w' hf
      have hff := HF.out.call hf HF.out.size (by simp)
      clear hf
      have HFF := Lib.hid hff
      clear hff
      go_wp2_with fail
      have z4 := Z4.out
      have z5 := Z5.out
      exact ⟨⟨n + 1, by have w4 := W4.out; have w5 := W5.out; rw [HCT.out]; simp [w4, w5], by simp [z4, z5], HNM.out, HFF.out⟩, by rw [z5]; exact HMS2.out⟩
  obtain ⟨rfl, hf⟩ := hcut
  obtain ⟨V6, hV6⟩ : ∃ V, V = wc := ⟨_, rfl⟩
  rw [← hV6] at hf ⊢
  clear hV6
  have HF := Lib.hid hf
  clear hf
  go_wp2_with fail
  go_loopw [27] (fun s27 wr => ∃ p : Nat, s27 = .int .i64 p ∧ p ≤ T ∧ Frm V0.heap.size [] V0 wr) (fun s27 _ => T - (intOf s27).toNat)
  case atStart => exact ⟨0, rfl, Nat.zero_le _, HF.out⟩
  case round =>
    clear HF
    obtain ⟨p, rfl, hp, hf⟩ := hrel
    by_cases hpl : p < T
    rotate_left
    · have hpl' : ¬ (p : Int) < (T : Int) := by omega
      obtain rfl : p = T := by omega
      have hff := HFW.out.call hf HFW.out.size (by simp)
      have HFF := Lib.hid hff
      clear hff
      go_wp2_with fail
      refine (awake_any wr).mono ?_; rintro e wz ⟨rfl, hf1⟩
      have hff := HFF.out.call hf1 HFF.out.size (by simp)
      have HFF2 := Lib.hid hff
      clear hff
      go_wp2_with fail
      go_ret
      exact ⟨rfl, HFF2.out⟩
    have hpl' : (p : Int) < (T : Int) := by omega
    obtain ⟨z4, z5⟩ := wrapUp hpl (Nat.le_trans HT60.out (by decide))
    have hms3 := meas_up hpl
    have HF := Lib.hid hf
    have HMS3 := Lib.hid hms3
    have HPL := Lib.hid hpl
    clear hpl hms3 hf
    go_wp2_with fail
    go_loopw [28] (fun s28 wr => ∃ q : Nat, s28 = .int .i64 q ∧ q ≤ p ∧ Frm V0.heap.size [] V0 wr) (fun s28 _ => p - (intOf s28).toNat)
    case atStart => exact ⟨0, rfl, Nat.zero_le _, HF.out⟩
    case round =>
      clear HF
      obtain ⟨q, rfl, hq, hf⟩ := hrel
      by_cases hql : q < p
      rotate_left
      · have hql' : ¬ (q : Int) < (p : Int) := by omega
        obtain rfl : q = p := by omega
        have HF := Lib.hid hf
        clear hf
        go_wp2_with fail
        exact ⟨⟨q + 1, by simp [z4, z5], HPL.out, HF.out⟩, by have := HMS3.out; simpa [intOf, z4, z5] using this⟩
      have hql' : (q : Int) < (p : Int) := by omega
      obtain ⟨x4, x5⟩ := wrapUp hql (Nat.le_trans hp (Nat.le_trans HT60.out (by decide)))
      have hms4 := meas_up hql
      have hqT : q < T := Nat.lt_trans hql HPL.out
      have hrc := HREP.out wr hf p HPL.out
      have hk := HK2.out p q HPL.out hqT
      have HF := Lib.hid hf
      have HMS4 := Lib.hid hms4
      have HQL := Lib.hid hql
      have HQT := Lib.hid hqT
      have HRC := Lib.hid hrc
      have HKK := Lib.hid hk
      clear hk hrc hqT hql hms4 hf
      go_wp2_with fail
      refine HRC.out.mono ?_; rintro e U1 ⟨⟨b', o', c', rfl⟩, hf1⟩
      have hf := HF.out.call hf1 HF.out.size (by simp)
      clear hf1 HF HRC
      have HF := Lib.hid hf
      clear hf
      go_wp2_with (with_reducible refine atStore 24 rfl ?_; refine stop_ ?_)
      refine go_on ?_
      refine wpList_storeNew (P := Try.prog) (cs := repC (s.rp p) (some ⟨b', o', none⟩) c') rfl rfl rfl rfl rfl info24 (by simp [repC, Value.oneCell']) ?_
      intro U2 hf1 kb hz; clear hz
      dsimp only [Act.put]
      obtain ⟨p29, hp5⟩ : ∃ p, p = U1.heap.size := ⟨_, rfl⟩
      rw [← hp5] at kb ⊢
      have hf := HF.out.call hf1 HF.out.size (by simp)
      have cp : U2.cell? ⟨p29, 3, none⟩ = some (.string (s.rp p).abt) := kb.cell 3
      have hrc := HREP.out U2 hf q HQT.out
      clear hf1 HF kb hp5
      have HF := Lib.hid hf
      have CP := Lib.hid cp
      have HRC := Lib.hid hrc
      clear hrc cp hf
      go_wp2_with fail
      refine HRC.out.mono ?_; rintro e U3 ⟨⟨b', o', c', rfl⟩, hf1⟩
      have hf := HF.out.call hf1 HF.out.size (by simp)
      have cp : U3.cell? ⟨p29, 3, none⟩ = some (.string (s.rp p).abt) := (hf1.cell (cell_lt CP.out) (by simp)).trans CP.out
      clear hf1 HF HRC CP
      have HF := Lib.hid hf
      have CP := Lib.hid cp
      clear cp hf
      go_wp2_with (with_reducible refine atStore 24 rfl ?_; refine stop_ ?_)
      refine go_on ?_
      refine wpList_storeNew (P := Try.prog) (cs := repC (s.rp q) (some ⟨b', o', none⟩) c') rfl rfl rfl rfl rfl info24 (by simp [repC, Value.oneCell']) ?_
      intro U4 hf1 kb hz; clear hz
      dsimp only [Act.put]
      obtain ⟨p32, hp5⟩ : ∃ p, p = U3.heap.size := ⟨_, rfl⟩
      rw [← hp5] at kb ⊢
      have hf := HF.out.call hf1 HF.out.size (by simp)
      have cq : U4.cell? ⟨p32, 3, none⟩ = some (.string (s.rp q).abt) := kb.cell 3
      have cp : U4.cell? ⟨p29, 3, none⟩ = some (.string (s.rp p).abt) := (hf1.cell (cell_lt CP.out) (by simp)).trans CP.out
      have hk := HKK.out
      obtain ⟨ap, hap⟩ : ∃ c, c = (s.rp p).abt := ⟨_, rfl⟩
      obtain ⟨aq, haq⟩ : ∃ c, c = (s.rp q).abt := ⟨_, rfl⟩
      obtain ⟨op_, hop_⟩ : ∃ c, c = s.o p := ⟨_, rfl⟩
      obtain ⟨oq_, hoq_⟩ : ∃ c, c = s.o q := ⟨_, rfl⟩
      rw [← hap] at cp hk
      rw [← haq] at cq hk
      rw [← hop_] at hk ⊢
      rw [← hoq_] at hk ⊢
      clear hf1 HF kb hp5 HKK CP hap haq hop_ hoq_
      have HF := Lib.hid hf
      have HKK := Lib.hid hk
      clear hk hf
      by_cases e0 : ap.size = 0
      · have hl : ap.toList = [] := by rw [str_nil e0, Lib.toList_data]
        have hl2 : ap.toList.isEmpty = true := by rw [hl]; rfl
        go_wp2_with fail
        exact ⟨⟨q + 1, by simp [x4, x5], HQL.out, HF.out⟩, by have := HMS4.out; simpa [intOf, x4, x5] using this⟩
      have hl : ¬ ap.toList = [] := lst_not e0
      have hl2 : ap.toList.isEmpty = false := by simp [hl]
      by_cases e1 : ap = aq
      · have e2 := HKK.out e0 e1
        subst e1
        subst e2
        go_wp2_with fail
        exact ⟨⟨q + 1, by simp [x4, x5], HQL.out, HF.out⟩, by have := HMS4.out; simpa [intOf, x4, x5] using this⟩
      have e2 : ¬ ap.toList = aq.toList := fun h => e1 (lst_inj h)
      have e3 : (ap.toList == aq.toList) = false := by simp [e2]
      go_wp2_with fail
      exact ⟨⟨q + 1, by simp [x4, x5], HQL.out, HF.out⟩, by have := HMS4.out; simpa [intOf, x4, x5] using this⟩
set_option maxRecDepth 100000 in
theorem incidentKeeps_lifted (os : Os) (started : os.Started) (H : Type) (enc : TypeId × Value → H) :
    ReturnsInHanded {} Try.checked os 4 .any (Rows.incidentKeepsSpec.pre6 enc Try.prog Try.f4 Rows.incidentKeepsRow.domain false) (Rows.incidentKeepsSpec.post enc Try.prog Try.f4 false true false false) := by
  refine law_lift (fn := Try.f4) (s := Rows.incidentKeepsSpec) (conds := Rows.incidentKeepsRow.domain) started 3 (by kernel_rfl) Try.func4
      (ChangeSpec.witness6 (enc := enc) (C := Try.checked) false ⟨#[], #[.int .i64 0, .int .i64 0, .slice none 0 0], []⟩ 8 (by kernel_rfl) (by kernel_rfl) (by kernel_rfl) (by kernel_rfl))
      (by rw [Try.params4]; decide +kernel) (by rw [Try.params4]; rfl) (by kernel_rfl) rfl (fun ds h => by match ds, h with | [d1, d2, d3], _ => rfl) ?_
  intro W base args ds ps hval hA
  rw [Try.params4] at hA hval
  obtain ⟨v0, vs0, d0, ds0, p0, q0, hargs, rfl, rfl, h0, r0⟩ := trodAll_cons hA
  obtain ⟨v1, vs1, d1, ds1, p1, q1, rfl, rfl, rfl, h1, r1⟩ := trodAll_cons r0
  obtain ⟨v2, vs2, d2, ds2, p2, q2, rfl, rfl, rfl, h2, r2⟩ := trodAll_cons r1
  obtain ⟨rfl, rfl, rfl⟩ := trodAll_nil r2
  obtain rfl : args = #[v0, v1, v2] := by cases args; simp_all
  obtain ⟨wd, rfl⟩ := okWide_int Try.underlying3 (hval 0 3 v0 rfl rfl)
  obtain ⟨dr, rfl⟩ := okWide_int Try.underlying3 (hval 1 3 v1 rfl rfl)
  obtain ⟨ad, len, cap, b, off, A, rfl, hr, ha⟩ := open_acts (hval 2 31 v2 rfl rfl) h2
  exact keeps_walk wd dr ad len cap b off A W hr ha

theorem incidentKeeps_over : Rows.incidentKeepsRow.holds Try.pinned (OpenSpec.ofChange Rows.incidentKeepsSpec) :=
  OpenClaim.holds_of_wide 4 Try.f4 rfl rfl rfl rfl rfl rfl rfl ⟨rfl, rfl, rfl, rfl, rfl⟩ rfl rfl rfl rfl rfl (by kernel_rfl) Try.func4 (by kernel_rfl)
    (of_decide_eq_true (by kernel_rfl)) (by unfold Func.isWrapper; first | (rw [if_pos (by decide +kernel)]; kernel_rfl) | (rw [if_neg (by decide +kernel)]; exact ⟨rfl, rfl⟩))
    (fun os started H enc _ => incidentKeeps_lifted os started H enc)

/-- The statement. -/
theorem incidentKeeps_proved : Rows.IncidentKeepsSaid := incidentKeeps_over
end Go.Proofs.Ythgmdilfmeefiaa
