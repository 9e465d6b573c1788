/-
  IncidentNear: the reason for which a report was taken is true.
-/
import Derived.Test.YthgmdilfmeefiaaJ45
namespace Go.Proofs.Ythgmdilfmeefiaa
set_option linter.all false
set_option linter.unusedSimpArgs false
set_option linter.unusedVariables false
open Go.ChangeShapes Go.WideShapes Go.ChangeAt Go.RowKit
set_option maxRecDepth 100000 in
set_option maxHeartbeats 16000000 in
theorem near_walk (wd dr : Int) (ad : Option Addr) (len cap b off : Nat) (A : Nat → Act_ × APos) (w : World) (hr : RwA w ad b off len A) (ha : ∀ i, i < len → ActAt w (A i).1 (A i).2) :
    Calls Try.prog 5 #[.int .i64 wd, .int .i64 dr, .slice ad len cap] w fun e w' => e = .returned (.bool true) ∧ Frm w.heap.size [] w w' := by
  have hf0 := Try.func5
  have hlen := hr.len
  have had := hr.ad
  have hgr := greats_any ad b off len cap A w hr
  have HR := Lib.hid hr
  have HA := Lib.hid ha
  have HLEN := Lib.hid hlen
  have HAD := Lib.hid had
  have HGR := Lib.hid hgr
  clear hgr had hlen ha hr
  go_enter Try.func5, Try.ntmps5
  go_wp2_with fail
  refine HGR.out.mono ?_; rintro e w1 ⟨he, hf⟩
  rcases he with rfl | ⟨rfl, h60⟩
  · have HF := Lib.hid hf
    clear hf
    go_wp2_with fail
    refine (awake_any w1).mono ?_; rintro e wz ⟨rfl, hf1⟩
    have hf := HF.out.call hf1 HF.out.size (by simp)
    clear hf1 HF
    have HF := Lib.hid hf
    clear hf
    go_wp2_with fail
    go_ret
    exact ⟨rfl, HF.out⟩
  have HF := Lib.hid hf
  have H60 := Lib.hid h60
  clear h60 hf
  go_wp2_with fail
  cases hru : rulesB wd dr
  · refine (new_any wd dr w1).mono ?_; rintro e w2 ⟨he, hf1⟩
    rw [hru] at he
    rw [if_neg (by simp)] at he
    subst he
    have hf := HF.out.call hf1 HF.out.size (by simp)
    clear hf1 HF
    have HF := Lib.hid hf
    have HRU := Lib.hid hru
    clear hru hf
    go_wp2_with fail
    refine (awake_any w2).mono ?_; rintro e wz ⟨rfl, hf1⟩
    have hf := HF.out.call hf1 HF.out.size (by simp)
    clear hf1 HF
    have HF := Lib.hid hf
    clear hf
    go_wp2_with fail
    go_ret
    exact ⟨rfl, HF.out⟩
  refine (new_live wd dr hru HF.out).mono ?_; rintro e w2 ⟨k, rfl, hlv, hf1, hk⟩
  clear hf1 hk
  have HL := Lib.hid hlv
  have HRU := Lib.hid hru
  clear hru hlv
  go_wp2_with fail
  go_loopw [9] (fun s9 wr => ∃ (i : Nat) (s : BS) (m : Mem), s9 = .int .i64 i ∧ i ≤ len ∧ Live w wr k s m ∧ s.window = wd ∧ s.drift = dr) (fun s9 _ => len - (intOf s9).toNat)
  case atStart => exact ⟨0, _, _, rfl, Nat.zero_le _, HL.out, rfl, rfl⟩
  case round =>
    clear HL HF
    obtain ⟨i, s, m, rfl, hi, hlv, hwd, hdr⟩ := hrel
    by_cases hil : i < len
    rotate_left
    · have hil' : ¬ (i : Int) < (len : Int) := by omega
      obtain rfl : i = len := by omega
      have hf := hlv.frm
      clear hlv
      have HF := Lib.hid hf
      clear hf
      go_wp2_with fail
      refine (awake_any wr).mono ?_; rintro e wz ⟨rfl, hf1⟩
      have hf := HF.out.call hf1 HF.out.size (by simp)
      clear hf1 HF
      have HF := Lib.hid hf
      clear hf
      go_wp2_with fail
      go_ret
      exact ⟨rfl, HF.out⟩
    have hil' : (i : Int) < (len : Int) := by omega
    have had := HAD.out (by omega)
    subst had
    obtain ⟨y4, y5⟩ := wrapUp hil HLEN.out
    have hms := meas_up hil
    obtain ⟨x, hx⟩ : ∃ x, x = (A i).1 := ⟨_, rfl⟩
    obtain ⟨q, hq⟩ : ∃ x, x = (A i).2 := ⟨_, rfl⟩
    have hact : ActAt w x q := by rw [hx, hq]; exact HA.out i hil
    obtain ⟨C, hC⟩ : ∃ c, c = actC x q := ⟨_, rfl⟩
    have hcl : C.length = 16 := by rw [hC]; rfl
    have hat : ∀ V, Frm w.heap.size [] w V → ∀ (j : Nat) (v : Value), C[j]? = some v → V.cell? ⟨b, off + i * 16 + j, none⟩ = some v := fun V hV j v hv => (HR.out.frm hV (Nat.le_refl _)).at_ i hil j v (by rw [← hx, ← hq, ← hC]; exact hv)
    have hc0 : C[0]? = some (.int .i64 x.what) := by rw [hC]; rfl
    have hc1 : C[1]? = some (.int .i64 x.n) := by rw [hC]; rfl
    have hc2 : C[2]? = some (.int .i64 x.m) := by rw [hC]; rfl
    have hdo : ∀ V s m, Live w V k s m → Calls Try.prog 15 #[.pointer (some ⟨k, 0, none⟩), .agg C.toArray] V fun e V' => e = .returned (.tuple #[.int .i64 (doS s x).2.1, .int .i64 (doS s x).2.2.1, .int .i64 (doS s x).2.2.2]) ∧ ∃ m', Live w V' k (doS s x).1 m' ∧ Turn k V V' s (doS s x).1 m m' := fun V s m h => by
      rw [hC]; exact does_live h x q (h.args hact).1 (h.args hact).2
    have hrep24 : ∀ V, Frm w.heap.size [] w V → (loadVar 24 ⟨b, off + i * 16 + 3, none⟩).run Try.prog V = .ok (.agg (repC x.r q.ra q.rc).toArray) V := fun V hV => by
      have := RwA.rep (HR.out.frm hV (Nat.le_refl _)) hil
      rw [← hx, ← hq] at this
      exact this
    have hl41 : (loadVar 41 ⟨b, off + i * 16, none⟩).run Try.prog wr = .ok (.agg C.toArray) wr := run_loadVar_mid wr b (off + i * 16) 41 C _ (fun j v hv => hat _ hlv.frm j v hv) Try.underlying41 rfl (by rw [hcl]; exact info41)
    have hqr := hact.r
    clear hx hq hC hact
    have HL := Lib.hid hlv
    have HMS := Lib.hid hms
    have HAT := Lib.hid hat
    have HCL := Lib.hid hcl
    have HC0 := Lib.hid hc0
    have HC1 := Lib.hid hc1
    have HC2 := Lib.hid hc2
    have HDO := Lib.hid hdo
    have HIL := Lib.hid hil
    have HR24 := Lib.hid hrep24
    have HQR := Lib.hid hqr
    have HL41 := Lib.hid hl41
    have HWD := Lib.hid hwd
    have HDR := Lib.hid hdr
    clear hdr hwd hl41 hqr hrep24 hil hdo hc2 hc1 hc0 hcl hat hms hlv
    go_wp2_with (with_reducible refine atLoad 41 rfl ?_; refine wpList_loadE rfl rfl rfl HL41.out ?_)
    refine (HDO.out wr s m HL.out).mono ?_; rintro e V1 ⟨rfl, m', hlv, ht⟩
    have hinv := HL.out.at_.inv
    have hru2 := do_rules s x
    obtain ⟨s', hs'⟩ : ∃ z, z = (doS s x).1 := ⟨_, rfl⟩
    obtain ⟨f, hfe⟩ : ∃ c, c = (doS s x).2.2.2 := ⟨_, rfl⟩
    obtain ⟨n, hne⟩ : ∃ c, c = (doS s x).2.1 := ⟨_, rfl⟩
    obtain ⟨why, hwe⟩ : ∃ c, c = (doS s x).2.2.1 := ⟨_, rfl⟩
    rw [← hfe, ← hne, ← hwe]
    rw [← hs'] at hlv hru2
    have hwd2 : s'.window = wd := hru2.1.trans HWD.out
    have hdr2 : s'.drift = dr := hru2.2.trans HDR.out
    have c0 : V1.cell? ⟨b, off + i * 16, none⟩ = some (.int .i64 x.what) := HAT.out _ hlv.frm 0 _ HC0.out
    clear ht HL HL41 hru2
    have HL := Lib.hid hlv
    have HINV := Lib.hid hinv
    have HS' := Lib.hid hs'
    have HFE := Lib.hid hfe
    have HNE := Lib.hid hne
    have HWE := Lib.hid hwe
    have HWD2 := Lib.hid hwd2
    have HDR2 := Lib.hid hdr2
    clear hdr2 hwd2 hwe hne hfe hs' hinv hlv
    obtain ⟨wh, hwh⟩ : ∃ c, c = x.what := ⟨_, rfl⟩
    rw [← hwh] at c0
    have HWH := Lib.hid hwh
    clear hwh
    by_cases hf0 : f = 0
    rotate_left
    · have hf1 : (f == 0) = false := by simp [hf0]
      go_wp2_with fail
      exact ⟨⟨i + 1, s', m', by simp [y4, y5], HIL.out, HL.out, HWD2.out, HDR2.out⟩, by have := HMS.out; simpa [intOf, y4, y5] using this⟩
    subst hf0
    by_cases hw1 : 1 ≤ wh
    · by_cases hw3 : wh ≤ 3
      · go_wp2_with fail
        exact ⟨⟨i + 1, s', m', by simp [y4, y5], HIL.out, HL.out, HWD2.out, HDR2.out⟩, by have := HMS.out; simpa [intOf, y4, y5] using this⟩
      · have htk := took_ok (s := s) (x := x) (by have := HWH.out; omega) HFE.out.symm
        obtain ⟨hok, hn5, htd⟩ := htk
        obtain ⟨N, hN⟩ : ∃ c, c = s.reps.length := ⟨_, rfl⟩
        obtain ⟨pl, hpl⟩ : ∃ c, c = placeS s x.r := ⟨_, rfl⟩
        have hple := place_le s x.r
        have hpw := place_why HINV.out x.r
        rw [← hpl] at htd hpw hple
        have hsT : s' = takenS s x.r pl.1 := by rw [HS'.out, htd]
        have hnT : n = (pl.1 : Int) := by rw [HNE.out, htd]
        have hwT : why = pl.2 := by rw [HWE.out, htd]
        subst hnT
        subst hwT
        have hrS : reportsS s' (pl.1 : Int) = (ofL s (pl.1 : Int) ++ [N], 0) := by
          unfold reportsS
          rw [hsT, if_pos (take_there HINV.out x.r hple), of_taken HINV.out, hN]
        obtain ⟨l, hl⟩ : ∃ l, l = ofL s (pl.1 : Int) := ⟨_, rfl⟩
        rw [← hl] at hrS hpw
        have hlm : ∀ y ∈ l, y < N := fun y hy => by rw [hl] at hy; rw [hN]; exact (of_mem.1 hy).1
        have hh5 : hasI s (pl.1 : Int) x.r 5 = l.any fun y => decide (cmpZ wd dr (s.rp y) x.r = 5) := by rw [has_of, hl, HWD.out, HDR.out]
        have hh1 : hasI s (pl.1 : Int) x.r 1 = l.any fun y => decide (cmpZ wd dr (s.rp y) x.r = 1) := by rw [has_of, hl, HWD.out, HDR.out]
        rw [hh5, hh1] at hpw
        have hpy : ∀ y, y < N → y < s'.reps.length ∧ s'.rp y = s.rp y ∧ repB (s.rp y) = true := fun y hy => by
          have hy2 : y < s.reps.length := by rw [← hN]; exact hy
          refine ⟨?_, ?_, HINV.out.rok hy2⟩
          · rw [hsT, taken_len]; omega
          · rw [hsT]; exact taken_rp s x.r pl.1 hy2
        have hlen5 : l.length ≤ 500 := by
          rw [hl]
          unfold ofL
          have h1 := List.length_filter_le (fun j => decide ((s.o j : Int) = (pl.1 : Int))) (List.range s.reps.length)
          have h2 := HINV.out.max.1
          simp only [List.length_range] at h1
          omega
        clear hl hh5 hh1 hsT htd hpl hple hn5
        have HOK := Lib.hid hok
        have HN := Lib.hid hN
        have HPW := Lib.hid hpw
        have HRS := Lib.hid hrS
        have HLM := Lib.hid hlm
        have HPY := Lib.hid hpy
        have HL5 := Lib.hid hlen5
        clear hlen5 hpy hlm hrS hpw hN hok
        go_wp2_with fail
        refine (reports_call HL.out.at_ (pl.1 : Int)).mono ?_; rintro e V2 ⟨v2, rfl, hin, hf1⟩
        rw [HRS.out] at hin ⊢
        obtain ⟨ma, mc, rfl⟩ := hin.form
        have hlv := HL.out.still hf1
        obtain ⟨M, hM⟩ : ∃ c, c = (l ++ [N]).length := ⟨_, rfl⟩
        obtain ⟨L, hL⟩ : ∃ c, c = l.length := ⟨_, rfl⟩
        have hML : M = L + 1 := by rw [hM, hL]; simp
        have hM0 : ¬ (M : Int) = 0 := by omega
        have hM1 : ((M : Int) == 0) = false := by simp; omega
        have e1 : IntKind.i64.wrap ((M : Int) - 1) = (L : Int) := by rw [hML, show (((L + 1 : Nat) : Int) - 1) = (L : Int) by omega]; exact IntWalk.i64_in _ (by have := HL5.out; omega)
        have e2 : wrap64 ((M : Int) - 1) = (L : Int) := by rw [hML, show (((L + 1 : Nat) : Int) - 1) = (L : Int) by omega]; exact IntWalk.wrap64_in _ (by have := HL5.out; omega)
        dsimp only
        rw [← hM]
        clear hf1 HL c0
        have HL := Lib.hid hlv
        have HIN := Lib.hid hin
        have HM := Lib.hid hM
        have HLL := Lib.hid hL
        have HML := Lib.hid hML
        clear hML hL hM hin hlv
        go_wp2_with fail
        clear hM0 hM1
        go_loopw [15, 16, 17] (fun s15 s16 s17 wr => ∃ j : Nat, s15 = .bool (anyK (fun y => decide (cmpZ wd dr (s.rp y) x.r = 5)) l j) ∧ s16 = .bool (anyK (fun y => decide (cmpZ wd dr (s.rp y) x.r = 1)) l j) ∧ s17 = .int .i64 j ∧ j ≤ L ∧ Frm V2.heap.size [] V2 wr) (fun _ _ s17 _ => L - (intOf s17).toNat)
        case atStart => exact ⟨0, rfl, rfl, rfl, Nat.zero_le _, Frm.refl _ _ _⟩
        case round =>
          obtain ⟨j, rfl, rfl, rfl, hj, hf⟩ := hrel
          by_cases hjl : j < L
          rotate_left
          · have hjl' : ¬ (j : Int) < (L : Int) := by omega
            obtain rfl : j = L := by omega
            have hlv := HL.out.still hf
            have hfin : ∃ (i_1 : Nat) (s_1 : BS) (m_1 : Mem), Value.int IntKind.i64 ((i : Int) + 1) = .int .i64 i_1 ∧ i_1 ≤ len ∧ Live w wr k s_1 m_1 ∧ s_1.window = wd ∧ s_1.drift = dr := ⟨i + 1, s', m', by simp, HIL.out, hlv, HWD2.out, HDR2.out⟩
            rw [HLL.out, anyK_all, anyK_all]
            obtain ⟨B5, hB5⟩ : ∃ c, c = l.any fun y => decide (cmpZ wd dr (s.rp y) x.r = 5) := ⟨_, rfl⟩
            obtain ⟨B1, hB1⟩ : ∃ c, c = l.any fun y => decide (cmpZ wd dr (s.rp y) x.r = 1) := ⟨_, rfl⟩
            have hpw := HPW.out
            rw [← hB5, ← hB1] at hpw ⊢
            obtain ⟨why, hwy⟩ : ∃ c, c = pl.2 := ⟨_, rfl⟩
            rw [← hwy] at hpw ⊢
            rw [← HLL.out]
            clear hB5 hB1
            have HFIN := Lib.hid hfin
            have HWY := Lib.hid hwy
            clear hwy hfin
            rcases hpw with ⟨h1, h2⟩ | ⟨h1, h2, h3⟩ | ⟨h1, h2⟩
            · subst h1
              subst h2
              go_wp2_with fail
              have hfin := HFIN.out
              (try simp only [y4, y5])
              exact ⟨hfin, by have := HMS.out; simpa [intOf, y4, y5] using this⟩
            · subst h1
              subst h2
              subst h3
              go_wp2_with fail
              have hfin := HFIN.out
              (try simp only [y4, y5])
              exact ⟨hfin, by have := HMS.out; simpa [intOf, y4, y5] using this⟩
            · have hM1 : M = 1 := by have := HML.out; have h3 := HLL.out; rw [h2] at h3; simp at h3; omega
              rcases h1 with h1 | h1
              · subst h1
                subst hM1
                go_wp2_with fail
                have hfin := HFIN.out
                (try simp only [y4, y5])
                exact ⟨hfin, by have := HMS.out; simpa [intOf, y4, y5] using this⟩
              · subst h1
                subst hM1
                go_wp2_with fail
                have hfin := HFIN.out
                (try simp only [y4, y5])
                exact ⟨hfin, by have := HMS.out; simpa [intOf, y4, y5] using this⟩
          have hjl' : (j : Int) < (L : Int) := by omega
          obtain ⟨z4, z5⟩ := wrapUp hjl (by rw [HLL.out]; exact Nat.le_trans HL5.out (by decide))
          have hms2 := meas_up hjl
          have hlv := HL.out.still hf
          have hin := HIN.out.call hf
          obtain ⟨own, hsl, _⟩ := hin
          obtain ⟨ad1, b1, o1, cc1, e3, hr1⟩ := ints_at0 hsl
          rw [← HM.out] at e3 hr1
          cases e3
          have had1 := hr1.ad (by rw [HML.out]; exact Nat.succ_pos _)
          subst had1
          have hjL : j < l.length := by rw [← HLL.out]; exact hjl
          have hjM : j < M := by rw [HML.out]; exact Nat.lt_succ_of_lt hjl
          have hjM' : (j : Int) < (M : Int) := Int.ofNat_lt.2 hjM
          have hjm : l.getD j 0 ∈ l := by
            rw [List.getD_eq_getElem?_getD, List.getElem?_eq_getElem hjL]
            exact List.getElem_mem _
          have cw : wr.cell? ⟨b1, o1 + j, none⟩ = some (.int .i64 ((l.getD j 0 : Nat) : Int)) := by
            have := hr1.cellI (i := j) (by rw [HML.out]; exact Nat.lt_succ_of_lt hjl)
            rw [this]
            unfold at0
            rw [List.getD_eq_getElem?_getD, List.getD_eq_getElem?_getD, List.getElem?_append_left hjL]
          have ha5 := anyK_succ (fun y => decide (cmpZ wd dr (s.rp y) x.r = 5)) l hjL
          have ha1 := anyK_succ (fun y => decide (cmpZ wd dr (s.rp y) x.r = 1)) l hjL
          obtain ⟨y, hy⟩ : ∃ y, y = l.getD j 0 := ⟨_, rfl⟩
          rw [← hy] at hjm cw ha5 ha1
          obtain ⟨hy1, hy2, hy3⟩ := HPY.out y (HLM.out y hjm)
          have hrc := report_yes hlv.at_ hy1
          rw [hy2] at hrc
          obtain ⟨K5, hK5⟩ : ∃ c, c = anyK (fun y => decide (cmpZ wd dr (s.rp y) x.r = 5)) l j := ⟨_, rfl⟩
          obtain ⟨K1, hK1⟩ : ∃ c, c = anyK (fun y => decide (cmpZ wd dr (s.rp y) x.r = 1)) l j := ⟨_, rfl⟩
          rw [← hK5] at ha5 ⊢
          rw [← hK1] at ha1 ⊢
          obtain ⟨c, hc⟩ : ∃ c, c = cmpZ wd dr (s.rp y) x.r := ⟨_, rfl⟩
          have hcA : cmpA (s.rp y) x.r wd dr = (c, 0) := by rw [hc]; exact cmpA_ok hy3 HOK.out HRU.out
          (try dsimp only at ha5 ha1)
          rw [← hc] at ha5 ha1
          have hfw := hlv.frm
          obtain ⟨R, hR⟩ : ∃ z, z = s.rp y := ⟨_, rfl⟩
          rw [← hR] at hrc hcA
          obtain ⟨oy, hoy⟩ : ∃ z, z = (s'.o y : Int) := ⟨_, rfl⟩
          rw [← hoy] at hrc
          clear hsl hr1 hjm hK5 hK1 hy hy1 hy2 hy3 hc hR hoy
          have HF := Lib.hid hf
          have HMS2 := Lib.hid hms2
          have HRC := Lib.hid hrc
          have HLV := Lib.hid hlv
          have HJL := Lib.hid hjl
          have HJLL := Lib.hid hjL
          have HA5 := Lib.hid ha5
          have HA1 := Lib.hid ha1
          have HCA := Lib.hid hcA
          have HFW := Lib.hid hfw
          clear hfw hcA ha1 ha5 hjL hjl hlv hrc hms2 hf
          go_wp2_with fail
          refine HRC.out.mono ?_; rintro e V3 ⟨⟨b', o', c', rfl, hsp, _⟩, hf1⟩
          have hf := HF.out.call hf1 HF.out.size (by simp)
          have hfw := HFW.out.call hf1 HFW.out.size (by simp)
          clear hf1 HF HFW HLV HRC cw
          have HF := Lib.hid hf
          have HFW := Lib.hid hfw
          have HSP := Lib.hid hsp
          clear hsp hfw hf
          go_wp2_with (with_reducible refine atStore 24 rfl ?_; refine stop_ ?_)
          refine go_on ?_
          refine wpList_storeNew (P := Try.prog) (cs := repC R (some ⟨b', o', none⟩) c') rfl rfl rfl rfl rfl info24 (by simp [repC, Value.oneCell']) ?_
          intro V4 hf1 k5 hz; clear hz
          dsimp only [Act.put]
          obtain ⟨p5, hp5⟩ : ∃ p, p = V3.heap.size := ⟨_, rfl⟩
          rw [← hp5] at k5 ⊢
          have hf := HF.out.call hf1 HF.out.size (by simp)
          have hfw := HFW.out.call hf1 HFW.out.size (by simp)
          have hsp := (SlP.rw rfl HSP.out).1.frm hf1 (Nat.le_refl _)
          have hl1 : ∀ V, Frm V4.heap.size [] V4 V → (loadVar 24 ⟨p5, 0, none⟩).run Try.prog V = .ok (.agg (repC R (some ⟨b', o', none⟩) c').toArray) V := fun V hV => load24 (hV.blk k5 k5.lt (by simp)) rfl
          have hl2 : ∀ V, Frm V4.heap.size [] V4 V → (loadVar 24 ⟨b, off + i * 16 + 3, none⟩).run Try.prog V = .ok (.agg (repC x.r q.ra q.rc).toArray) V := fun V hV => HR24.out V (hfw.call hV hfw.size (by simp))
          have hrca : ∀ V, Frm V4.heap.size [] V4 V → Calls Try.prog 12 #[.agg (repC R (some ⟨b', o', none⟩) c').toArray, .agg (repC x.r q.ra q.rc).toArray, .int .i64 wd, .int .i64 dr] V fun e w' => e = .returned (.tuple #[.int .i64 c, .int .i64 0]) ∧ Frm V.heap.size [] V w' := fun V hV =>
            (refCompare_any wd dr R x.r (some ⟨b', o', none⟩) q.ra c' q.rc V b' o' q.rb q.ro (hsp.frm hV (Nat.le_refl _)) (HQR.out.frm (hfw.call hV hfw.size (by simp)) (Nat.le_refl _))).mono fun e w' ⟨g1, g2⟩ => ⟨by rw [g1, HCA.out], g2⟩
          have hfx : ∀ V, Frm V4.heap.size [] V4 V → True ∧ True := fun _ _ => ⟨trivial, trivial⟩
          clear hf1 HF HFW HSP hsp k5 hp5 hfw
          have HF := Lib.hid hf
          have HL1 := Lib.hid hl1
          have HL2 := Lib.hid hl2
          have HRCA := Lib.hid hrca
          have HFX := Lib.hid hfx
          clear hfx hrca hl2 hl1 hf
          go_upto_region 19 with fail
          refine wp_region_leftL (fun V => Frm V4.heap.size [] V4 V) 1000 (by kernel_rfl) ?_
          have hS : Frm V4.heap.size [] V4 V4.drew := (Frm.refl _ _ V4).drew
          have HS := Lib.hid hS
          clear hS
          refine LeftL.take 0 rfl (by kernel_rfl) (fun _ _ d _ _ h => by cases d <;> exact h) (yields_loadE (ty := 24) rfl rfl rfl (HL1.out)) HS.out ?_; (intro K' hK'; go_simp; refine hK' _ ?_; clear hK' K')
          first | ((first | refine LeftL.tkF (v := ?_) 1 rfl HS.out ?_ ?_ | refine LeftL.tkG (v := ?_) 1 rfl HS.out ?_ ?_); rotate_left; (· intro V hV; obtain ⟨z1, z2⟩ := HFX.out V hV; clear hV; go_simp; rfl)) | refine LeftL.tkN 1 rfl HS.out ?_
          (intro K' hK'; go_simp; refine hK' _ ?_; clear hK' K')
          first | ((first | refine LeftL.tkF (v := ?_) 2 rfl HS.out ?_ ?_ | refine LeftL.tkG (v := ?_) 2 rfl HS.out ?_ ?_); rotate_left; (· intro V hV; obtain ⟨z1, z2⟩ := HFX.out V hV; clear hV; go_simp; rfl)) | refine LeftL.tkN 2 rfl HS.out ?_
          (intro K' hK'; go_simp; refine hK' _ ?_; clear hK' K')
          first | ((first | refine LeftL.tkF (v := ?_) 3 rfl HS.out ?_ ?_ | refine LeftL.tkG (v := ?_) 3 rfl HS.out ?_ ?_); rotate_left; (· intro V hV; obtain ⟨z1, z2⟩ := HFX.out V hV; clear hV; go_simp; rfl)) | refine LeftL.tkN 3 rfl HS.out ?_
          (intro K' hK'; go_simp; refine hK' _ ?_; clear hK' K')
          first | ((first | refine LeftL.tkF (v := ?_) 4 rfl HS.out ?_ ?_ | refine LeftL.tkG (v := ?_) 4 rfl HS.out ?_ ?_); rotate_left; (· intro V hV; obtain ⟨z1, z2⟩ := HFX.out V hV; clear hV; go_simp; rfl)) | refine LeftL.tkN 4 rfl HS.out ?_
          (intro K' hK'; go_simp; refine hK' _ ?_; clear hK' K')
          refine LeftL.take 5 rfl (by kernel_rfl) (fun _ _ d _ _ h => by cases d <;> exact h) (yields_loadE (ty := 24) rfl rfl rfl (HL2.out)) HS.out ?_; (intro K' hK'; go_simp; refine hK' _ ?_; clear hK' K')
          first | ((first | refine LeftL.tkF (v := ?_) 6 rfl HS.out ?_ ?_ | refine LeftL.tkG (v := ?_) 6 rfl HS.out ?_ ?_); rotate_left; (· intro V hV; obtain ⟨z1, z2⟩ := HFX.out V hV; clear hV; go_simp; rfl)) | refine LeftL.tkN 6 rfl HS.out ?_
          (intro K' hK'; go_simp; refine hK' _ ?_; clear hK' K')
          first | ((first | refine LeftL.tkF (v := ?_) 7 rfl HS.out ?_ ?_ | refine LeftL.tkG (v := ?_) 7 rfl HS.out ?_ ?_); rotate_left; (· intro V hV; obtain ⟨z1, z2⟩ := HFX.out V hV; clear hV; go_simp; rfl)) | refine LeftL.tkN 7 rfl HS.out ?_
          (intro K' hK'; go_simp; refine hK' _ ?_; clear hK' K')
          refine LeftL.one 8 rfl (by kernel_rfl) ?_
          go_wp2_with fail
          refine (HRCA.out _ HS.out).mono ?_; rintro e w1 ⟨rfl, hf1⟩
          have hS1 := HS.out.call hf1 HS.out.size (by simp)
          clear hf1 HS
          have HS := Lib.hid hS1
          clear hS1
          go_wp2_with fail
          first | refine ⟨fun _ => HS.out, ?_⟩ | refine ⟨HS.out, ?_⟩
          first | ((first | refine LeftL.tkF (v := ?_) 9 rfl HS.out ?_ ?_ | refine LeftL.tkG (v := ?_) 9 rfl HS.out ?_ ?_); rotate_left; (· intro V hV; obtain ⟨z1, z2⟩ := HFX.out V hV; clear hV; go_simp; rfl)) | refine LeftL.tkN 9 rfl HS.out ?_
          (intro K' hK'; go_simp; refine hK' _ ?_; clear hK' K')
          first | ((first | refine LeftL.tkF (v := ?_) 10 rfl HS.out ?_ ?_ | refine LeftL.tkG (v := ?_) 10 rfl HS.out ?_ ?_); rotate_left; (· intro V hV; obtain ⟨z1, z2⟩ := HFX.out V hV; clear hV; go_simp; rfl)) | refine LeftL.tkN 10 rfl HS.out ?_
          (intro K' hK'; go_simp; refine hK' _ ?_; clear hK' K')
          first | ((first | refine LeftL.tkF (v := ?_) 11 rfl HS.out ?_ ?_ | refine LeftL.tkG (v := ?_) 11 rfl HS.out ?_ ?_); rotate_left; (· intro V hV; obtain ⟨z1, z2⟩ := HFX.out V hV; clear hV; go_simp; rfl)) | refine LeftL.tkN 11 rfl HS.out ?_
          (intro K' hK'; go_simp; refine hK' _ ?_; clear hK' K')
          refine LeftL.one 12 rfl (by kernel_rfl) ?_
          go_wp2_with fail
          first | refine ⟨fun _ => HS.out, ?_⟩ | refine ⟨HS.out, ?_⟩
          refine LeftL.one 13 rfl (by kernel_rfl) ?_
          go_wp2_with fail
          first | refine ⟨fun _ => HS.out, ?_⟩ | refine ⟨HS.out, ?_⟩
          refine LeftL.done (by kernel_rfl) ?_
          have hf := HF.out.call HS.out HF.out.size (by simp)
          clear HF HS HFX HL1 HL2 HRCA
          have HF := Lib.hid hf
          clear hf
          cases K5
          · cases K1
            · by_cases h5 : c = 5
              · subst h5
                go_wp2_with fail
                exact ⟨⟨j + 1, by rw [HA5.out]; simp, by rw [HA1.out]; simp, by simp [z4, z5], HJL.out, HF.out⟩, by have := HMS2.out; simpa [intOf, z4, z5] using this⟩
              have h5b : (c == 5) = false := by simp [h5]
              by_cases h1 : c = 1
              · subst h1
                go_wp2_with fail
                exact ⟨⟨j + 1, by rw [HA5.out]; simp, by rw [HA1.out]; simp, by simp [z4, z5], HJL.out, HF.out⟩, by have := HMS2.out; simpa [intOf, z4, z5] using this⟩
              have h1b : (c == 1) = false := by simp [h1]
              go_wp2_with fail
              exact ⟨⟨j + 1, by rw [HA5.out]; simp [h5], by rw [HA1.out]; simp [h1], by simp [z4, z5], HJL.out, HF.out⟩, by have := HMS2.out; simpa [intOf, z4, z5] using this⟩
            · by_cases h5 : c = 5
              · subst h5
                go_wp2_with fail
                exact ⟨⟨j + 1, by rw [HA5.out]; simp, by rw [HA1.out]; simp, by simp [z4, z5], HJL.out, HF.out⟩, by have := HMS2.out; simpa [intOf, z4, z5] using this⟩
              have h5b : (c == 5) = false := by simp [h5]
              by_cases h1 : c = 1
              · subst h1
                go_wp2_with fail
                exact ⟨⟨j + 1, by rw [HA5.out]; simp, by rw [HA1.out]; simp, by simp [z4, z5], HJL.out, HF.out⟩, by have := HMS2.out; simpa [intOf, z4, z5] using this⟩
              have h1b : (c == 1) = false := by simp [h1]
              go_wp2_with fail
              exact ⟨⟨j + 1, by rw [HA5.out]; simp [h5], by rw [HA1.out]; simp [h1], by simp [z4, z5], HJL.out, HF.out⟩, by have := HMS2.out; simpa [intOf, z4, z5] using this⟩
          · cases K1
            · by_cases h5 : c = 5
              · subst h5
                go_wp2_with fail
                exact ⟨⟨j + 1, by rw [HA5.out]; simp, by rw [HA1.out]; simp, by simp [z4, z5], HJL.out, HF.out⟩, by have := HMS2.out; simpa [intOf, z4, z5] using this⟩
              have h5b : (c == 5) = false := by simp [h5]
              by_cases h1 : c = 1
              · subst h1
                go_wp2_with fail
                exact ⟨⟨j + 1, by rw [HA5.out]; simp, by rw [HA1.out]; simp, by simp [z4, z5], HJL.out, HF.out⟩, by have := HMS2.out; simpa [intOf, z4, z5] using this⟩
              have h1b : (c == 1) = false := by simp [h1]
              go_wp2_with fail
              exact ⟨⟨j + 1, by rw [HA5.out]; simp [h5], by rw [HA1.out]; simp [h1], by simp [z4, z5], HJL.out, HF.out⟩, by have := HMS2.out; simpa [intOf, z4, z5] using this⟩
            · by_cases h5 : c = 5
              · subst h5
                go_wp2_with fail
                exact ⟨⟨j + 1, by rw [HA5.out]; simp, by rw [HA1.out]; simp, by simp [z4, z5], HJL.out, HF.out⟩, by have := HMS2.out; simpa [intOf, z4, z5] using this⟩
              have h5b : (c == 5) = false := by simp [h5]
              by_cases h1 : c = 1
              · subst h1
                go_wp2_with fail
                exact ⟨⟨j + 1, by rw [HA5.out]; simp, by rw [HA1.out]; simp, by simp [z4, z5], HJL.out, HF.out⟩, by have := HMS2.out; simpa [intOf, z4, z5] using this⟩
              have h1b : (c == 1) = false := by simp [h1]
              go_wp2_with fail
              exact ⟨⟨j + 1, by rw [HA5.out]; simp [h5], by rw [HA1.out]; simp [h1], by simp [z4, z5], HJL.out, HF.out⟩, by have := HMS2.out; simpa [intOf, z4, z5] using this⟩
    · have htk := took_ok (s := s) (x := x) (by have := HWH.out; omega) HFE.out.symm
      obtain ⟨hok, hn5, htd⟩ := htk
      obtain ⟨N, hN⟩ : ∃ c, c = s.reps.length := ⟨_, rfl⟩
      obtain ⟨pl, hpl⟩ : ∃ c, c = placeS s x.r := ⟨_, rfl⟩
      have hple := place_le s x.r
      have hpw := place_why HINV.out x.r
      rw [← hpl] at htd hpw hple
      have hsT : s' = takenS s x.r pl.1 := by rw [HS'.out, htd]
      have hnT : n = (pl.1 : Int) := by rw [HNE.out, htd]
      have hwT : why = pl.2 := by rw [HWE.out, htd]
      subst hnT
      subst hwT
      have hrS : reportsS s' (pl.1 : Int) = (ofL s (pl.1 : Int) ++ [N], 0) := by
        unfold reportsS
        rw [hsT, if_pos (take_there HINV.out x.r hple), of_taken HINV.out, hN]
      obtain ⟨l, hl⟩ : ∃ l, l = ofL s (pl.1 : Int) := ⟨_, rfl⟩
      rw [← hl] at hrS hpw
      have hlm : ∀ y ∈ l, y < N := fun y hy => by rw [hl] at hy; rw [hN]; exact (of_mem.1 hy).1
      have hh5 : hasI s (pl.1 : Int) x.r 5 = l.any fun y => decide (cmpZ wd dr (s.rp y) x.r = 5) := by rw [has_of, hl, HWD.out, HDR.out]
      have hh1 : hasI s (pl.1 : Int) x.r 1 = l.any fun y => decide (cmpZ wd dr (s.rp y) x.r = 1) := by rw [has_of, hl, HWD.out, HDR.out]
      rw [hh5, hh1] at hpw
      have hpy : ∀ y, y < N → y < s'.reps.length ∧ s'.rp y = s.rp y ∧ repB (s.rp y) = true := fun y hy => by
        have hy2 : y < s.reps.length := by rw [← hN]; exact hy
        refine ⟨?_, ?_, HINV.out.rok hy2⟩
        · rw [hsT, taken_len]; omega
        · rw [hsT]; exact taken_rp s x.r pl.1 hy2
      have hlen5 : l.length ≤ 500 := by
        rw [hl]
        unfold ofL
        have h1 := List.length_filter_le (fun j => decide ((s.o j : Int) = (pl.1 : Int))) (List.range s.reps.length)
        have h2 := HINV.out.max.1
        simp only [List.length_range] at h1
        omega
      clear hl hh5 hh1 hsT htd hpl hple hn5
      have HOK := Lib.hid hok
      have HN := Lib.hid hN
      have HPW := Lib.hid hpw
      have HRS := Lib.hid hrS
      have HLM := Lib.hid hlm
      have HPY := Lib.hid hpy
      have HL5 := Lib.hid hlen5
      clear hlen5 hpy hlm hrS hpw hN hok
      go_wp2_with fail
      refine (reports_call HL.out.at_ (pl.1 : Int)).mono ?_; rintro e V2 ⟨v2, rfl, hin, hf1⟩
      rw [HRS.out] at hin ⊢
      obtain ⟨ma, mc, rfl⟩ := hin.form
      have hlv := HL.out.still hf1
      obtain ⟨M, hM⟩ : ∃ c, c = (l ++ [N]).length := ⟨_, rfl⟩
      obtain ⟨L, hL⟩ : ∃ c, c = l.length := ⟨_, rfl⟩
      have hML : M = L + 1 := by rw [hM, hL]; simp
      have hM0 : ¬ (M : Int) = 0 := by omega
      have hM1 : ((M : Int) == 0) = false := by simp; omega
      have e1 : IntKind.i64.wrap ((M : Int) - 1) = (L : Int) := by rw [hML, show (((L + 1 : Nat) : Int) - 1) = (L : Int) by omega]; exact IntWalk.i64_in _ (by have := HL5.out; omega)
      have e2 : wrap64 ((M : Int) - 1) = (L : Int) := by rw [hML, show (((L + 1 : Nat) : Int) - 1) = (L : Int) by omega]; exact IntWalk.wrap64_in _ (by have := HL5.out; omega)
      dsimp only
      rw [← hM]
      clear hf1 HL c0
      have HL := Lib.hid hlv
      have HIN := Lib.hid hin
      have HM := Lib.hid hM
      have HLL := Lib.hid hL
      have HML := Lib.hid hML
      clear hML hL hM hin hlv
      go_wp2_with fail
      clear hM0 hM1
      go_loopw [15, 16, 17] (fun s15 s16 s17 wr => ∃ j : Nat, s15 = .bool (anyK (fun y => decide (cmpZ wd dr (s.rp y) x.r = 5)) l j) ∧ s16 = .bool (anyK (fun y => decide (cmpZ wd dr (s.rp y) x.r = 1)) l j) ∧ s17 = .int .i64 j ∧ j ≤ L ∧ Frm V2.heap.size [] V2 wr) (fun _ _ s17 _ => L - (intOf s17).toNat)
      case atStart => exact ⟨0, rfl, rfl, rfl, Nat.zero_le _, Frm.refl _ _ _⟩
      case round =>
        obtain ⟨j, rfl, rfl, rfl, hj, hf⟩ := hrel
        by_cases hjl : j < L
        rotate_left
        · have hjl' : ¬ (j : Int) < (L : Int) := by omega
          obtain rfl : j = L := by omega
          have hlv := HL.out.still hf
          have hfin : ∃ (i_1 : Nat) (s_1 : BS) (m_1 : Mem), Value.int IntKind.i64 ((i : Int) + 1) = .int .i64 i_1 ∧ i_1 ≤ len ∧ Live w wr k s_1 m_1 ∧ s_1.window = wd ∧ s_1.drift = dr := ⟨i + 1, s', m', by simp, HIL.out, hlv, HWD2.out, HDR2.out⟩
          rw [HLL.out, anyK_all, anyK_all]
          obtain ⟨B5, hB5⟩ : ∃ c, c = l.any fun y => decide (cmpZ wd dr (s.rp y) x.r = 5) := ⟨_, rfl⟩
          obtain ⟨B1, hB1⟩ : ∃ c, c = l.any fun y => decide (cmpZ wd dr (s.rp y) x.r = 1) := ⟨_, rfl⟩
          have hpw := HPW.out
          rw [← hB5, ← hB1] at hpw ⊢
          obtain ⟨why, hwy⟩ : ∃ c, c = pl.2 := ⟨_, rfl⟩
          rw [← hwy] at hpw ⊢
          rw [← HLL.out]
          clear hB5 hB1
          have HFIN := Lib.hid hfin
          have HWY := Lib.hid hwy
          clear hwy hfin
          rcases hpw with ⟨h1, h2⟩ | ⟨h1, h2, h3⟩ | ⟨h1, h2⟩
          · subst h1
            subst h2
            go_wp2_with fail
            have hfin := HFIN.out
            (try simp only [y4, y5])
            exact ⟨hfin, by have := HMS.out; simpa [intOf, y4, y5] using this⟩
          · subst h1
            subst h2
            subst h3
            go_wp2_with fail
            have hfin := HFIN.out
            (try simp only [y4, y5])
            exact ⟨hfin, by have := HMS.out; simpa [intOf, y4, y5] using this⟩
          · have hM1 : M = 1 := by have := HML.out; have h3 := HLL.out; rw [h2] at h3; simp at h3; omega
            rcases h1 with h1 | h1
            · subst h1
              subst hM1
              go_wp2_with fail
              have hfin := HFIN.out
              (try simp only [y4, y5])
              exact ⟨hfin, by have := HMS.out; simpa [intOf, y4, y5] using this⟩
            · subst h1
              subst hM1
              go_wp2_with fail
              have hfin := HFIN.out
              (try simp only [y4, y5])
              exact ⟨hfin, by have := HMS.out; simpa [intOf, y4, y5] using this⟩
        have hjl' : (j : Int) < (L : Int) := by omega
        obtain ⟨z4, z5⟩ := wrapUp hjl (by rw [HLL.out]; exact Nat.le_trans HL5.out (by decide))
        have hms2 := meas_up hjl
        have hlv := HL.out.still hf
        have hin := HIN.out.call hf
        obtain ⟨own, hsl, _⟩ := hin
        obtain ⟨ad1, b1, o1, cc1, e3, hr1⟩ := ints_at0 hsl
        rw [← HM.out] at e3 hr1
        cases e3
        have had1 := hr1.ad (by rw [HML.out]; exact Nat.succ_pos _)
        subst had1
        have hjL : j < l.length := by rw [← HLL.out]; exact hjl
        have hjM : j < M := by rw [HML.out]; exact Nat.lt_succ_of_lt hjl
        have hjM' : (j : Int) < (M : Int) := Int.ofNat_lt.2 hjM
        have hjm : l.getD j 0 ∈ l := by
          rw [List.getD_eq_getElem?_getD, List.getElem?_eq_getElem hjL]
          exact List.getElem_mem _
        have cw : wr.cell? ⟨b1, o1 + j, none⟩ = some (.int .i64 ((l.getD j 0 : Nat) : Int)) := by
          have := hr1.cellI (i := j) (by rw [HML.out]; exact Nat.lt_succ_of_lt hjl)
          rw [this]
          unfold at0
          rw [List.getD_eq_getElem?_getD, List.getD_eq_getElem?_getD, List.getElem?_append_left hjL]
        have ha5 := anyK_succ (fun y => decide (cmpZ wd dr (s.rp y) x.r = 5)) l hjL
        have ha1 := anyK_succ (fun y => decide (cmpZ wd dr (s.rp y) x.r = 1)) l hjL
        obtain ⟨y, hy⟩ : ∃ y, y = l.getD j 0 := ⟨_, rfl⟩
        rw [← hy] at hjm cw ha5 ha1
        obtain ⟨hy1, hy2, hy3⟩ := HPY.out y (HLM.out y hjm)
        have hrc := report_yes hlv.at_ hy1
        rw [hy2] at hrc
        obtain ⟨K5, hK5⟩ : ∃ c, c = anyK (fun y => decide (cmpZ wd dr (s.rp y) x.r = 5)) l j := ⟨_, rfl⟩
        obtain ⟨K1, hK1⟩ : ∃ c, c = anyK (fun y => decide (cmpZ wd dr (s.rp y) x.r = 1)) l j := ⟨_, rfl⟩
        rw [← hK5] at ha5 ⊢
        rw [← hK1] at ha1 ⊢
        obtain ⟨c, hc⟩ : ∃ c, c = cmpZ wd dr (s.rp y) x.r := ⟨_, rfl⟩
        have hcA : cmpA (s.rp y) x.r wd dr = (c, 0) := by rw [hc]; exact cmpA_ok hy3 HOK.out HRU.out
        (try dsimp only at ha5 ha1)
        rw [← hc] at ha5 ha1
        have hfw := hlv.frm
        obtain ⟨R, hR⟩ : ∃ z, z = s.rp y := ⟨_, rfl⟩
        rw [← hR] at hrc hcA
        obtain ⟨oy, hoy⟩ : ∃ z, z = (s'.o y : Int) := ⟨_, rfl⟩
        rw [← hoy] at hrc
        clear hsl hr1 hjm hK5 hK1 hy hy1 hy2 hy3 hc hR hoy
        have HF := Lib.hid hf
        have HMS2 := Lib.hid hms2
        have HRC := Lib.hid hrc
        have HLV := Lib.hid hlv
        have HJL := Lib.hid hjl
        have HJLL := Lib.hid hjL
        have HA5 := Lib.hid ha5
        have HA1 := Lib.hid ha1
        have HCA := Lib.hid hcA
        have HFW := Lib.hid hfw
        clear hfw hcA ha1 ha5 hjL hjl hlv hrc hms2 hf
        go_wp2_with fail
        refine HRC.out.mono ?_; rintro e V3 ⟨⟨b', o', c', rfl, hsp, _⟩, hf1⟩
        have hf := HF.out.call hf1 HF.out.size (by simp)
        have hfw := HFW.out.call hf1 HFW.out.size (by simp)
        clear hf1 HF HFW HLV HRC cw
        have HF := Lib.hid hf
        have HFW := Lib.hid hfw
        have HSP := Lib.hid hsp
        clear hsp hfw hf
        go_wp2_with (with_reducible refine atStore 24 rfl ?_; refine stop_ ?_)
        refine go_on ?_
        refine wpList_storeNew (P := Try.prog) (cs := repC R (some ⟨b', o', none⟩) c') rfl rfl rfl rfl rfl info24 (by simp [repC, Value.oneCell']) ?_
        intro V4 hf1 k5 hz; clear hz
        dsimp only [Act.put]
        obtain ⟨p5, hp5⟩ : ∃ p, p = V3.heap.size := ⟨_, rfl⟩
        rw [← hp5] at k5 ⊢
        have hf := HF.out.call hf1 HF.out.size (by simp)
        have hfw := HFW.out.call hf1 HFW.out.size (by simp)
        have hsp := (SlP.rw rfl HSP.out).1.frm hf1 (Nat.le_refl _)
        have hl1 : ∀ V, Frm V4.heap.size [] V4 V → (loadVar 24 ⟨p5, 0, none⟩).run Try.prog V = .ok (.agg (repC R (some ⟨b', o', none⟩) c').toArray) V := fun V hV => load24 (hV.blk k5 k5.lt (by simp)) rfl
        have hl2 : ∀ V, Frm V4.heap.size [] V4 V → (loadVar 24 ⟨b, off + i * 16 + 3, none⟩).run Try.prog V = .ok (.agg (repC x.r q.ra q.rc).toArray) V := fun V hV => HR24.out V (hfw.call hV hfw.size (by simp))
        have hrca : ∀ V, Frm V4.heap.size [] V4 V → Calls Try.prog 12 #[.agg (repC R (some ⟨b', o', none⟩) c').toArray, .agg (repC x.r q.ra q.rc).toArray, .int .i64 wd, .int .i64 dr] V fun e w' => e = .returned (.tuple #[.int .i64 c, .int .i64 0]) ∧ Frm V.heap.size [] V w' := fun V hV =>
          (refCompare_any wd dr R x.r (some ⟨b', o', none⟩) q.ra c' q.rc V b' o' q.rb q.ro (hsp.frm hV (Nat.le_refl _)) (HQR.out.frm (hfw.call hV hfw.size (by simp)) (Nat.le_refl _))).mono fun e w' ⟨g1, g2⟩ => ⟨by rw [g1, HCA.out], g2⟩
        have hfx : ∀ V, Frm V4.heap.size [] V4 V → True ∧ True := fun _ _ => ⟨trivial, trivial⟩
        clear hf1 HF HFW HSP hsp k5 hp5 hfw
        have HF := Lib.hid hf
        have HL1 := Lib.hid hl1
        have HL2 := Lib.hid hl2
        have HRCA := Lib.hid hrca
        have HFX := Lib.hid hfx
        clear hfx hrca hl2 hl1 hf
        go_upto_region 19 with fail
        refine wp_region_leftL (fun V => Frm V4.heap.size [] V4 V) 1000 (by kernel_rfl) ?_
        have hS : Frm V4.heap.size [] V4 V4.drew := (Frm.refl _ _ V4).drew
        have HS := Lib.hid hS
        clear hS
        refine LeftL.take 0 rfl (by kernel_rfl) (fun _ _ d _ _ h => by cases d <;> exact h) (yields_loadE (ty := 24) rfl rfl rfl (HL1.out)) HS.out ?_; (intro K' hK'; go_simp; refine hK' _ ?_; clear hK' K')
        first | ((first | refine LeftL.tkF (v := ?_) 1 rfl HS.out ?_ ?_ | refine LeftL.tkG (v := ?_) 1 rfl HS.out ?_ ?_); rotate_left; (· intro V hV; obtain ⟨z1, z2⟩ := HFX.out V hV; clear hV; go_simp; rfl)) | refine LeftL.tkN 1 rfl HS.out ?_
        (intro K' hK'; go_simp; refine hK' _ ?_; clear hK' K')
        first | ((first | refine LeftL.tkF (v := ?_) 2 rfl HS.out ?_ ?_ | refine LeftL.tkG (v := ?_) 2 rfl HS.out ?_ ?_); rotate_left; (· intro V hV; obtain ⟨z1, z2⟩ := HFX.out V hV; clear hV; go_simp; rfl)) | refine LeftL.tkN 2 rfl HS.out ?_
        (intro K' hK'; go_simp; refine hK' _ ?_; clear hK' K')
        first | ((first | refine LeftL.tkF (v := ?_) 3 rfl HS.out ?_ ?_ | refine LeftL.tkG (v := ?_) 3 rfl HS.out ?_ ?_); rotate_left; (· intro V hV; obtain ⟨z1, z2⟩ := HFX.out V hV; clear hV; go_simp; rfl)) | refine LeftL.tkN 3 rfl HS.out ?_
        (intro K' hK'; go_simp; refine hK' _ ?_; clear hK' K')
        first | ((first | refine LeftL.tkF (v := ?_) 4 rfl HS.out ?_ ?_ | refine LeftL.tkG (v := ?_) 4 rfl HS.out ?_ ?_); rotate_left; (· intro V hV; obtain ⟨z1, z2⟩ := HFX.out V hV; clear hV; go_simp; rfl)) | refine LeftL.tkN 4 rfl HS.out ?_
        (intro K' hK'; go_simp; refine hK' _ ?_; clear hK' K')
        refine LeftL.take 5 rfl (by kernel_rfl) (fun _ _ d _ _ h => by cases d <;> exact h) (yields_loadE (ty := 24) rfl rfl rfl (HL2.out)) HS.out ?_; (intro K' hK'; go_simp; refine hK' _ ?_; clear hK' K')
        first | ((first | refine LeftL.tkF (v := ?_) 6 rfl HS.out ?_ ?_ | refine LeftL.tkG (v := ?_) 6 rfl HS.out ?_ ?_); rotate_left; (· intro V hV; obtain ⟨z1, z2⟩ := HFX.out V hV; clear hV; go_simp; rfl)) | refine LeftL.tkN 6 rfl HS.out ?_
        (intro K' hK'; go_simp; refine hK' _ ?_; clear hK' K')
        first | ((first | refine LeftL.tkF (v := ?_) 7 rfl HS.out ?_ ?_ | refine LeftL.tkG (v := ?_) 7 rfl HS.out ?_ ?_); rotate_left; (· intro V hV; obtain ⟨z1, z2⟩ := HFX.out V hV; clear hV; go_simp; rfl)) | refine LeftL.tkN 7 rfl HS.out ?_
        (intro K' hK'; go_simp; refine hK' _ ?_; clear hK' K')
        refine LeftL.one 8 rfl (by kernel_rfl) ?_
        go_wp2_with fail
        refine (HRCA.out _ HS.out).mono ?_; rintro e w1 ⟨rfl, hf1⟩
        have hS1 := HS.out.call hf1 HS.out.size (by simp)
        clear hf1 HS
        have HS := Lib.hid hS1
        clear hS1
        go_wp2_with fail
        first | refine ⟨fun _ => HS.out, ?_⟩ | refine ⟨HS.out, ?_⟩
        first | ((first | refine LeftL.tkF (v := ?_) 9 rfl HS.out ?_ ?_ | refine LeftL.tkG (v := ?_) 9 rfl HS.out ?_ ?_); rotate_left; (· intro V hV; obtain ⟨z1, z2⟩ := HFX.out V hV; clear hV; go_simp; rfl)) | refine LeftL.tkN 9 rfl HS.out ?_
        (intro K' hK'; go_simp; refine hK' _ ?_; clear hK' K')
        first | ((first | refine LeftL.tkF (v := ?_) 10 rfl HS.out ?_ ?_ | refine LeftL.tkG (v := ?_) 10 rfl HS.out ?_ ?_); rotate_left; (· intro V hV; obtain ⟨z1, z2⟩ := HFX.out V hV; clear hV; go_simp; rfl)) | refine LeftL.tkN 10 rfl HS.out ?_
        (intro K' hK'; go_simp; refine hK' _ ?_; clear hK' K')
        first | ((first | refine LeftL.tkF (v := ?_) 11 rfl HS.out ?_ ?_ | refine LeftL.tkG (v := ?_) 11 rfl HS.out ?_ ?_); rotate_left; (· intro V hV; obtain ⟨z1, z2⟩ := HFX.out V hV; clear hV; go_simp; rfl)) | refine LeftL.tkN 11 rfl HS.out ?_
        (intro K' hK'; go_simp; refine hK' _ ?_; clear hK' K')
        refine LeftL.one 12 rfl (by kernel_rfl) ?_
        go_wp2_with fail
        first | refine ⟨fun _ => HS.out, ?_⟩ | refine ⟨HS.out, ?_⟩
        refine LeftL.one 13 rfl (by kernel_rfl) ?_
        go_wp2_with fail
        first | refine ⟨fun _ => HS.out, ?_⟩ | refine ⟨HS.out, ?_⟩
        refine LeftL.done (by kernel_rfl) ?_
        have hf := HF.out.call HS.out HF.out.size (by simp)
        clear HF HS HFX HL1 HL2 HRCA
        have HF := Lib.hid hf
        clear hf
        cases K5
        · cases K1
          · by_cases h5 : c = 5
            · subst h5
              go_wp2_with fail
              exact ⟨⟨j + 1, by rw [HA5.out]; simp, by rw [HA1.out]; simp, by simp [z4, z5], HJL.out, HF.out⟩, by have := HMS2.out; simpa [intOf, z4, z5] using this⟩
            have h5b : (c == 5) = false := by simp [h5]
            by_cases h1 : c = 1
            · subst h1
              go_wp2_with fail
              exact ⟨⟨j + 1, by rw [HA5.out]; simp, by rw [HA1.out]; simp, by simp [z4, z5], HJL.out, HF.out⟩, by have := HMS2.out; simpa [intOf, z4, z5] using this⟩
            have h1b : (c == 1) = false := by simp [h1]
            go_wp2_with fail
            exact ⟨⟨j + 1, by rw [HA5.out]; simp [h5], by rw [HA1.out]; simp [h1], by simp [z4, z5], HJL.out, HF.out⟩, by have := HMS2.out; simpa [intOf, z4, z5] using this⟩
          · by_cases h5 : c = 5
            · subst h5
              go_wp2_with fail
              exact ⟨⟨j + 1, by rw [HA5.out]; simp, by rw [HA1.out]; simp, by simp [z4, z5], HJL.out, HF.out⟩, by have := HMS2.out; simpa [intOf, z4, z5] using this⟩
            have h5b : (c == 5) = false := by simp [h5]
            by_cases h1 : c = 1
            · subst h1
              go_wp2_with fail
              exact ⟨⟨j + 1, by rw [HA5.out]; simp, by rw [HA1.out]; simp, by simp [z4, z5], HJL.out, HF.out⟩, by have := HMS2.out; simpa [intOf, z4, z5] using this⟩
            have h1b : (c == 1) = false := by simp [h1]
            go_wp2_with fail
            exact ⟨⟨j + 1, by rw [HA5.out]; simp [h5], by rw [HA1.out]; simp [h1], by simp [z4, z5], HJL.out, HF.out⟩, by have := HMS2.out; simpa [intOf, z4, z5] using this⟩
        · cases K1
          · by_cases h5 : c = 5
            · subst h5
              go_wp2_with fail
              exact ⟨⟨j + 1, by rw [HA5.out]; simp, by rw [HA1.out]; simp, by simp [z4, z5], HJL.out, HF.out⟩, by have := HMS2.out; simpa [intOf, z4, z5] using this⟩
            have h5b : (c == 5) = false := by simp [h5]
            by_cases h1 : c = 1
            · subst h1
              go_wp2_with fail
              exact ⟨⟨j + 1, by rw [HA5.out]; simp, by rw [HA1.out]; simp, by simp [z4, z5], HJL.out, HF.out⟩, by have := HMS2.out; simpa [intOf, z4, z5] using this⟩
            have h1b : (c == 1) = false := by simp [h1]
            go_wp2_with fail
            exact ⟨⟨j + 1, by rw [HA5.out]; simp [h5], by rw [HA1.out]; simp [h1], by simp [z4, z5], HJL.out, HF.out⟩, by have := HMS2.out; simpa [intOf, z4, z5] using this⟩
          · by_cases h5 : c = 5
            · subst h5
              go_wp2_with fail
              exact ⟨⟨j + 1, by rw [HA5.out]; simp, by rw [HA1.out]; simp, by simp [z4, z5], HJL.out, HF.out⟩, by have := HMS2.out; simpa [intOf, z4, z5] using this⟩
            have h5b : (c == 5) = false := by simp [h5]
            by_cases h1 : c = 1
            · subst h1
              go_wp2_with fail
              exact ⟨⟨j + 1, by rw [HA5.out]; simp, by rw [HA1.out]; simp, by simp [z4, z5], HJL.out, HF.out⟩, by have := HMS2.out; simpa [intOf, z4, z5] using this⟩
            have h1b : (c == 1) = false := by simp [h1]
            go_wp2_with fail
            exact ⟨⟨j + 1, by rw [HA5.out]; simp [h5], by rw [HA1.out]; simp [h1], by simp [z4, z5], HJL.out, HF.out⟩, by have := HMS2.out; simpa [intOf, z4, z5] using this⟩
set_option maxRecDepth 100000 in
theorem incidentNear_lifted (os : Os) (started : os.Started) (H : Type) (enc : TypeId × Value → H) :
    ReturnsInHanded {} Try.checked os 5 .any (Rows.incidentNearSpec.pre6 enc Try.prog Try.f5 Rows.incidentNearRow.domain false) (Rows.incidentNearSpec.post enc Try.prog Try.f5 false true false false) := by
  refine law_lift (fn := Try.f5) (s := Rows.incidentNearSpec) (conds := Rows.incidentNearRow.domain) started 3 (by kernel_rfl) Try.func5
      (ChangeSpec.witness6 (enc := enc) (C := Try.checked) false ⟨#[], #[.int .i64 0, .int .i64 0, .slice none 0 0], []⟩ 8 (by kernel_rfl) (by kernel_rfl) (by kernel_rfl) (by kernel_rfl))
      (by rw [Try.params5]; decide +kernel) (by rw [Try.params5]; rfl) (by kernel_rfl) rfl (fun ds h => by match ds, h with | [d1, d2, d3], _ => rfl) ?_
  intro W base args ds ps hval hA
  rw [Try.params5] at hA hval
  obtain ⟨v0, vs0, d0, ds0, p0, q0, hargs, rfl, rfl, h0, r0⟩ := trodAll_cons hA
  obtain ⟨v1, vs1, d1, ds1, p1, q1, rfl, rfl, rfl, h1, r1⟩ := trodAll_cons r0
  obtain ⟨v2, vs2, d2, ds2, p2, q2, rfl, rfl, rfl, h2, r2⟩ := trodAll_cons r1
  obtain ⟨rfl, rfl, rfl⟩ := trodAll_nil r2
  obtain rfl : args = #[v0, v1, v2] := by cases args; simp_all
  obtain ⟨wd, rfl⟩ := okWide_int Try.underlying3 (hval 0 3 v0 rfl rfl)
  obtain ⟨dr, rfl⟩ := okWide_int Try.underlying3 (hval 1 3 v1 rfl rfl)
  obtain ⟨ad, len, cap, b, off, A, rfl, hr, ha⟩ := open_acts (hval 2 31 v2 rfl rfl) h2
  exact near_walk wd dr ad len cap b off A W hr ha

theorem incidentNear_over : Rows.incidentNearRow.holds Try.pinned (OpenSpec.ofChange Rows.incidentNearSpec) :=
  OpenClaim.holds_of_wide 5 Try.f5 rfl rfl rfl rfl rfl rfl rfl ⟨rfl, rfl, rfl, rfl, rfl⟩ rfl rfl rfl rfl rfl (by kernel_rfl) Try.func5 (by kernel_rfl)
    (of_decide_eq_true (by kernel_rfl)) (by unfold Func.isWrapper; first | (rw [if_pos (by decide +kernel)]; kernel_rfl) | (rw [if_neg (by decide +kernel)]; exact ⟨rfl, rfl⟩))
    (fun os started H enc _ => incidentNear_lifted os started H enc)

/-- The statement. -/
theorem incidentNear_proved : Rows.IncidentNearSaid := incidentNear_over
end Go.Proofs.Ythgmdilfmeefiaa
