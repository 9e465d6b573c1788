/-
  IncidentSilence: an open incident is closed by Close, which found all of its reports settled, or by Join as the second one.
-/
import Derived.Test.YthgmdilfmeefiaaJ44
namespace Go.Proofs.Ythgmdilfmeefiaa
set_option linter.all false
set_option linter.unusedSimpArgs false
set_option linter.unusedVariables false
open Go.ChangeShapes Go.WideShapes Go.ChangeAt Go.RowKit

set_option maxRecDepth 100000 in
set_option maxHeartbeats 16000000 in
theorem silence_walk (wd dr : Int) (ad : Option Addr) (len cap b off : Nat) (A : Nat → Act_ × APos) (w : World) (hr : RwA w ad b off len A) (ha : ∀ i, i < len → ActAt w (A i).1 (A i).2) :
    Calls Try.prog 6 #[.int .i64 wd, .int .i64 dr, .slice ad len cap] w fun e w' => e = .returned (.bool true) ∧ Frm w.heap.size [] w w' := by
  have hf0 := Try.func6
  have hlen := hr.len
  have had := hr.ad
  have hgr := greats_any ad b off len cap A w hr
  have HR := Lib.hid hr
  have HA := Lib.hid ha
  have HLEN := Lib.hid hlen
  have HAD := Lib.hid had
  have HGR := Lib.hid hgr
  clear hgr had hlen ha hr
  go_enter Try.func6, Try.ntmps6
  go_wp2_with fail
  refine HGR.out.mono ?_; rintro e w1 ⟨he, hf⟩
  rcases he with rfl | ⟨rfl, h60⟩
  · have HF := Lib.hid hf
    clear hf
    go_wp2_with fail
    refine (awake_any w1).mono ?_; rintro e wz ⟨rfl, hf1⟩
    have hf := HF.out.call hf1 HF.out.size (by simp)
    clear hf1 HF
    have HF := Lib.hid hf
    clear hf
    go_wp2_with fail
    go_ret
    exact ⟨rfl, HF.out⟩
  have HF := Lib.hid hf
  have H60 := Lib.hid h60
  clear h60 hf
  go_wp2_with fail
  cases hru : rulesB wd dr
  · refine (new_any wd dr w1).mono ?_; rintro e w2 ⟨he, hf1⟩
    rw [hru] at he
    rw [if_neg (by simp)] at he
    subst he
    have hf := HF.out.call hf1 HF.out.size (by simp)
    clear hf1 HF
    have HF := Lib.hid hf
    have HRU := Lib.hid hru
    clear hru hf
    go_wp2_with fail
    refine (awake_any w2).mono ?_; rintro e wz ⟨rfl, hf1⟩
    have hf := HF.out.call hf1 HF.out.size (by simp)
    clear hf1 HF
    have HF := Lib.hid hf
    clear hf
    go_wp2_with fail
    go_ret
    exact ⟨rfl, HF.out⟩
  refine (new_live wd dr hru HF.out).mono ?_; rintro e w2 ⟨k, rfl, hlv, hf1, hk⟩
  clear hf1 hk
  have HL := Lib.hid hlv
  have HRU := Lib.hid hru
  clear hru hlv
  go_wp2_with fail
  go_loopw [9] (fun s9 wr => ∃ (i : Nat) (s : BS) (m : Mem), s9 = .int .i64 i ∧ i ≤ len ∧ Live w wr k s m) (fun s9 _ => len - (intOf s9).toNat)
  case atStart => exact ⟨0, _, _, rfl, Nat.zero_le _, HL.out⟩
  case round =>
    clear HL HF
    obtain ⟨i, s, m, rfl, hi, hlv⟩ := hrel
    by_cases hil : i < len
    rotate_left
    · have hil' : ¬ (i : Int) < (len : Int) := by omega
      obtain rfl : i = len := by omega
      have hf := hlv.frm
      clear hlv
      have HF := Lib.hid hf
      clear hf
      go_wp2_with fail
      refine (awake_any wr).mono ?_; rintro e wz ⟨rfl, hf1⟩
      have hf := HF.out.call hf1 HF.out.size (by simp)
      clear hf1 HF
      have HF := Lib.hid hf
      clear hf
      go_wp2_with fail
      go_ret
      exact ⟨rfl, HF.out⟩
    have hil' : (i : Int) < (len : Int) := by omega
    have had := HAD.out (by omega)
    subst had
    obtain ⟨y4, y5⟩ := wrapUp hil HLEN.out
    have hms := meas_up hil
    obtain ⟨x, hx⟩ : ∃ x, x = (A i).1 := ⟨_, rfl⟩
    obtain ⟨q, hq⟩ : ∃ x, x = (A i).2 := ⟨_, rfl⟩
    have hact : ActAt w x q := by rw [hx, hq]; exact HA.out i hil
    obtain ⟨C, hC⟩ : ∃ c, c = actC x q := ⟨_, rfl⟩
    have hcl : C.length = 16 := by rw [hC]; rfl
    have hat : ∀ V, Frm w.heap.size [] w V → ∀ (j : Nat) (v : Value), C[j]? = some v → V.cell? ⟨b, off + i * 16 + j, none⟩ = some v := fun V hV j v hv => (HR.out.frm hV (Nat.le_refl _)).at_ i hil j v (by rw [← hx, ← hq, ← hC]; exact hv)
    have hc0 : C[0]? = some (.int .i64 x.what) := by rw [hC]; rfl
    have hc1 : C[1]? = some (.int .i64 x.n) := by rw [hC]; rfl
    have hc2 : C[2]? = some (.int .i64 x.m) := by rw [hC]; rfl
    have hdo : ∀ V s m, Live w V k s m → Calls Try.prog 15 #[.pointer (some ⟨k, 0, none⟩), .agg C.toArray] V fun e V' => e = .returned (.tuple #[.int .i64 (doS s x).2.1, .int .i64 (doS s x).2.2.1, .int .i64 (doS s x).2.2.2]) ∧ ∃ m', Live w V' k (doS s x).1 m' ∧ Turn k V V' s (doS s x).1 m m' := fun V s m h => by
      rw [hC]; exact does_live h x q (h.args hact).1 (h.args hact).2
    clear hx hq hC hact
    have HL := Lib.hid hlv
    have HMS := Lib.hid hms
    have HAT := Lib.hid hat
    have HCL := Lib.hid hcl
    have HC0 := Lib.hid hc0
    have HC1 := Lib.hid hc1
    have HC2 := Lib.hid hc2
    have HDO := Lib.hid hdo
    have HIL := Lib.hid hil
    clear hil hdo hc2 hc1 hc0 hcl hat hms hlv
    go_wp2_with fail
    refine (open_call HL.out.at_).mono ?_; rintro e V1 ⟨v1, rfl, hwas, hf1⟩
    have hlv := HL.out.still hf1
    have hown := HL.out.at_.own_lt
    obtain ⟨wa, wc, rfl⟩ := hwas.form
    have c1 : V1.cell? ⟨b, off + i * 16 + 1, none⟩ = some (.int .i64 x.n) := HAT.out _ hlv.frm 1 _ HC1.out
    clear hf1 HL
    have HL := Lib.hid hlv
    have HWAS := Lib.hid hwas
    have HOWN := Lib.hid hown
    clear hown hwas hlv
    go_wp2_with fail
    refine (missing_call HL.out.at_ x.n).mono ?_; rintro e V2 ⟨v2, rfl, hlf, hf1⟩
    obtain ⟨la, lc, rfl⟩ := hlf.form
    have hlv := HL.out.still hf1
    have hwas := HWAS.out.call hf1
    obtain ⟨lf, hlfe⟩ : ∃ c, c = (missingS s x.n).1.length := ⟨_, rfl⟩
    obtain ⟨g, hge⟩ : ∃ c, c = (missingS s x.n).2 := ⟨_, rfl⟩
    rw [← hlfe, ← hge]
    have hl41 : (loadVar 41 ⟨b, off + i * 16, none⟩).run Try.prog V2 = .ok (.agg C.toArray) V2 := run_loadVar_mid V2 b (off + i * 16) 41 C _ (fun j v hv => HAT.out _ hlv.frm j v hv) Try.underlying41 rfl (by rw [HCL.out]; exact info41)
    clear hf1 HL HWAS hlf c1
    have HL := Lib.hid hlv
    have HWAS := Lib.hid hwas
    have HLF := Lib.hid hlfe
    have HGE := Lib.hid hge
    have HL41 := Lib.hid hl41
    clear hl41 hge hlfe hwas hlv
    go_wp2_with (with_reducible refine atLoad 41 rfl ?_; refine wpList_loadE rfl rfl rfl HL41.out ?_)
    refine (HDO.out V2 s m HL.out).mono ?_; rintro e V3 ⟨rfl, m', hlv, ht⟩
    have hwas := ht.ints HWAS.out HOWN.out
    have hol := open_len HL.out.at_.inv
    obtain ⟨s', hs'⟩ : ∃ z, z = (doS s x).1 := ⟨_, rfl⟩
    obtain ⟨f, hfe⟩ : ∃ c, c = (doS s x).2.2.2 := ⟨_, rfl⟩
    rw [← hfe]
    rw [← hs'] at hlv
    have hsil : ∀ y ∈ openL s, hasL (openL s') (y : Int) = false → (x.what = 2 ∧ x.n = (y : Int) ∧ f = 0 ∧ g = 0 ∧ lf = 0) ∨ (x.what = 3 ∧ x.m = (y : Int) ∧ f = 0) := fun y hy hn => by
      rw [hs'] at hn
      rcases silence_ok x hy hn with ⟨h1, h2, h3, h4⟩ | ⟨h1, h2, h3⟩
      · refine .inl ⟨h1, h2, by rw [hfe]; exact h3, by rw [HGE.out, h4], by rw [HLF.out, h4]; rfl⟩
      · exact .inr ⟨h1, h2, by rw [hfe]; exact h3⟩
    clear ht HL HWAS HOWN HLF HGE HL41 hs' hfe
    have HL := Lib.hid hlv
    have HWAS := Lib.hid hwas
    have HSIL := Lib.hid hsil
    have HOL := Lib.hid hol
    clear hol hsil hwas hlv
    go_wp2_with fail
    refine (open_call HL.out.at_).mono ?_; rintro e V4 ⟨v4, rfl, hnow, hf1⟩
    obtain ⟨na, nc, hna⟩ := hnow.form
    have hlv := HL.out.still hf1
    have hwas := HWAS.out.call hf1
    have hnl := open_len HL.out.at_.inv
    clear hf1 HL HWAS
    obtain ⟨L, hL⟩ : ∃ L, L = openL s := ⟨_, rfl⟩
    obtain ⟨L', hL'⟩ : ∃ L, L = openL s' := ⟨_, rfl⟩
    rw [← hL] at hwas ⊢
    rw [← hL'] at hnow hna hnl
    have hsil := HSIL.out
    rw [← hL, ← hL'] at hsil
    have hol := HOL.out
    rw [← hL] at hol
    obtain ⟨n1, hn1⟩ : ∃ c, c = L.length := ⟨_, rfl⟩
    obtain ⟨n2, hn2⟩ : ∃ c, c = L'.length := ⟨_, rfl⟩
    rw [← hn1] at hwas hol ⊢
    rw [← hn2] at hna
    subst hna
    clear hL hL' HSIL HOL
    have HL := Lib.hid hlv
    have HWAS := Lib.hid hwas
    have HNOW := Lib.hid hnow
    have HSIL := Lib.hid hsil
    have HOL := Lib.hid hol
    have HNL := Lib.hid hnl
    have HN1 := Lib.hid hn1
    have HN2 := Lib.hid hn2
    clear hn2 hn1 hnl hol hsil hnow hwas hlv
    go_wp2_with fail
    go_loopw [17] (fun s17 wr => ∃ j : Nat, s17 = .int .i64 j ∧ j ≤ n1 ∧ Frm V4.heap.size [] V4 wr) (fun s17 _ => n1 - (intOf s17).toNat)
    case atStart => exact ⟨0, rfl, Nat.zero_le _, Frm.refl _ _ _⟩
    case round =>
      obtain ⟨j, rfl, hj, hf⟩ := hrel
      by_cases hjl : j < n1
      rotate_left
      · have hjl' : ¬ (j : Int) < (n1 : Int) := by omega
        obtain rfl : j = n1 := by omega
        have hlv := HL.out.still hf
        have HLV := Lib.hid hlv
        clear hlv
        go_wp2_with fail
        exact ⟨⟨i + 1, s', m', by simp [y4, y5], HIL.out, HLV.out⟩, by have := HMS.out; simpa [intOf, y4, y5] using this⟩
      have hjl' : (j : Int) < (n1 : Int) := by omega
      obtain ⟨z4, z5⟩ := wrapUp hjl (by have := HOL.out; unfold maxLen; omega)
      have hms2 := meas_up hjl
      have hwas := HWAS.out.call hf
      have hnow := HNOW.out.call hf
      obtain ⟨own, hsl, _⟩ := hwas
      rw [HN1.out] at hsl
      obtain ⟨ad1, b1, o1, cc1, e1, hr1⟩ := ints_at0 hsl
      cases e1
      have had1 := hr1.ad (by have := HN1.out; omega)
      subst had1
      have hjm : L.getD j 0 ∈ L := by
        rw [List.getD_eq_getElem?_getD, List.getElem?_eq_getElem (by have := HN1.out; omega)]
        exact List.getElem_mem _
      have cw : wr.cell? ⟨b1, o1 + j, none⟩ = some (.int .i64 ((L.getD j 0 : Nat) : Int)) := hr1.cellI (by have := HN1.out; omega)
      obtain ⟨y, hy⟩ : ∃ y, y = L.getD j 0 := ⟨_, rfl⟩
      rw [← hy] at hjm cw
      have hca := hasN_any hnow (by have := HNL.out; omega) (y : Int)
      have hsy := HSIL.out y hjm
      have hlv := HL.out.still hf
      clear hsl hr1 hy hjm hnow
      have HF := Lib.hid hf
      have HMS2 := Lib.hid hms2
      have HCA := Lib.hid hca
      have HLV := Lib.hid hlv
      have HJL := Lib.hid hjl
      clear hjl hlv hca hms2 hf
      cases hh : hasL L' (y : Int)
      rotate_left
      · have hca := HCA.out
        rw [hh] at hca
        have HCA2 := Lib.hid hca
        have HH := Lib.hid hh
        have HSY := Lib.hid hsy
        clear hsy hh hca
        go_wp2_with (go_at_call 20; refine HCA2.out.mono ?_; rintro e w' ⟨rfl, rfl⟩)
        exact ⟨⟨j + 1, by simp [z4, z5], HJL.out, HF.out⟩, by have := HMS2.out; simpa [intOf, z4, z5] using this⟩
      have hca := HCA.out
      rw [hh] at hca
      have hsy := hsy hh
      have hfx : ∀ V, Frm wr.heap.size [] wr V → V.cell? ⟨b, off + i * 16, none⟩ = some (.int .i64 x.what) ∧ V.cell? ⟨b, off + i * 16 + 1, none⟩ = some (.int .i64 x.n) ∧ V.cell? ⟨b, off + i * 16 + 2, none⟩ = some (.int .i64 x.m) ∧ V.cell? ⟨b1, o1 + j, none⟩ = some (.int .i64 (y : Int)) := fun V hV => by
        have hV2 := HLV.out.frm.call hV HLV.out.frm.size (by simp)
        exact ⟨HAT.out V hV2 0 _ HC0.out, HAT.out V hV2 1 _ HC1.out, HAT.out V hV2 2 _ HC2.out, (hV.cell (cell_lt cw) (by simp)).trans cw⟩
      obtain ⟨wh, hwh⟩ : ∃ c, c = x.what := ⟨_, rfl⟩
      obtain ⟨xn, hxn⟩ : ∃ c, c = x.n := ⟨_, rfl⟩
      obtain ⟨xm, hxm⟩ : ∃ c, c = x.m := ⟨_, rfl⟩
      rw [← hwh, ← hxn] at hsy
      rw [← hxm] at hsy
      rw [← hwh, ← hxn, ← hxm] at hfx
      clear hwh hxn hxm
      have hfx2 : ∀ U, Frm wr.heap.size [] wr U → ∀ V, Frm U.heap.size [] U V → V.cell? ⟨b, off + i * 16, none⟩ = some (.int .i64 wh) ∧ V.cell? ⟨b, off + i * 16 + 1, none⟩ = some (.int .i64 xn) ∧ V.cell? ⟨b, off + i * 16 + 2, none⟩ = some (.int .i64 xm) ∧ V.cell? ⟨b1, o1 + j, none⟩ = some (.int .i64 (y : Int)) := fun U hU V hV => hfx V (hU.call hV hU.size (by simp))
      have HCA2 := Lib.hid hca
      have HH := Lib.hid hh
      have HFX2 := Lib.hid hfx2
      clear hfx2 hh hca
      rcases hsy with ⟨h1, h2, h3, h4, h5⟩ | ⟨h1, h2, h3⟩
      · subst h1
        subst h2
        subst h3
        subst h4
        subst h5
        go_upto_region 17 with (go_at_call 20; refine HCA2.out.mono ?_; rintro e w' ⟨rfl, rfl⟩)
        have hfx := hfx
        clear cw
        have HFX := Lib.hid hfx
        clear hfx
        refine wp_region_leftL (fun V => Frm wr.heap.size [] wr V) 1000 (by kernel_rfl) ?_
        have hS : Frm wr.heap.size [] wr wr.drew := (Frm.refl _ _ wr).drew
        have HS := Lib.hid hS
        clear hS
        first | ((first | refine LeftL.tkF (v := ?_) 0 rfl HS.out ?_ ?_ | refine LeftL.tkG (v := ?_) 0 rfl HS.out ?_ ?_); rotate_left; (· intro V hV; obtain ⟨z1, z2, z3, z4⟩ := HFX.out V hV; clear hV; go_simp; rfl)) | refine LeftL.tkN 0 rfl HS.out ?_
        (intro K' hK'; go_simp; refine hK' _ ?_; clear hK' K')
        first | ((first | refine LeftL.tkF (v := ?_) 1 rfl HS.out ?_ ?_ | refine LeftL.tkG (v := ?_) 1 rfl HS.out ?_ ?_); rotate_left; (· intro V hV; obtain ⟨z1, z2, z3, z4⟩ := HFX.out V hV; clear hV; go_simp; rfl)) | refine LeftL.tkN 1 rfl HS.out ?_
        (intro K' hK'; go_simp; refine hK' _ ?_; clear hK' K')
        first | ((first | refine LeftL.tkF (v := ?_) 2 rfl HS.out ?_ ?_ | refine LeftL.tkG (v := ?_) 2 rfl HS.out ?_ ?_); rotate_left; (· intro V hV; obtain ⟨z1, z2, z3, z4⟩ := HFX.out V hV; clear hV; go_simp; rfl)) | refine LeftL.tkN 2 rfl HS.out ?_
        (intro K' hK'; go_simp; refine hK' _ ?_; clear hK' K')
        first | ((first | refine LeftL.tkF (v := ?_) 3 rfl HS.out ?_ ?_ | refine LeftL.tkG (v := ?_) 3 rfl HS.out ?_ ?_); rotate_left; (· intro V hV; obtain ⟨z1, z2, z3, z4⟩ := HFX.out V hV; clear hV; go_simp; rfl)) | refine LeftL.tkN 3 rfl HS.out ?_
        (intro K' hK'; go_simp; refine hK' _ ?_; clear hK' K')
        first | ((first | refine LeftL.tkF (v := ?_) 4 rfl HS.out ?_ ?_ | refine LeftL.tkG (v := ?_) 4 rfl HS.out ?_ ?_); rotate_left; (· intro V hV; obtain ⟨z1, z2, z3, z4⟩ := HFX.out V hV; clear hV; go_simp; rfl)) | refine LeftL.tkN 4 rfl HS.out ?_
        (intro K' hK'; go_simp; refine hK' _ ?_; clear hK' K')
        first | ((first | refine LeftL.tkF (v := ?_) 5 rfl HS.out ?_ ?_ | refine LeftL.tkG (v := ?_) 5 rfl HS.out ?_ ?_); rotate_left; (· intro V hV; obtain ⟨z1, z2, z3, z4⟩ := HFX.out V hV; clear hV; go_simp; rfl)) | refine LeftL.tkN 5 rfl HS.out ?_
        (intro K' hK'; go_simp; refine hK' _ ?_; clear hK' K')
        first | ((first | refine LeftL.tkF (v := ?_) 6 rfl HS.out ?_ ?_ | refine LeftL.tkG (v := ?_) 6 rfl HS.out ?_ ?_); rotate_left; (· intro V hV; obtain ⟨z1, z2, z3, z4⟩ := HFX.out V hV; clear hV; go_simp; rfl)) | refine LeftL.tkN 6 rfl HS.out ?_
        (intro K' hK'; go_simp; refine hK' _ ?_; clear hK' K')
        first | ((first | refine LeftL.tkF (v := ?_) 7 rfl HS.out ?_ ?_ | refine LeftL.tkG (v := ?_) 7 rfl HS.out ?_ ?_); rotate_left; (· intro V hV; obtain ⟨z1, z2, z3, z4⟩ := HFX.out V hV; clear hV; go_simp; rfl)) | refine LeftL.tkN 7 rfl HS.out ?_
        (intro K' hK'; go_simp; refine hK' _ ?_; clear hK' K')
        first | ((first | refine LeftL.tkF (v := ?_) 8 rfl HS.out ?_ ?_ | refine LeftL.tkG (v := ?_) 8 rfl HS.out ?_ ?_); rotate_left; (· intro V hV; obtain ⟨z1, z2, z3, z4⟩ := HFX.out V hV; clear hV; go_simp; rfl)) | refine LeftL.tkN 8 rfl HS.out ?_
        (intro K' hK'; go_simp; refine hK' _ ?_; clear hK' K')
        first | ((first | refine LeftL.tkF (v := ?_) 9 rfl HS.out ?_ ?_ | refine LeftL.tkG (v := ?_) 9 rfl HS.out ?_ ?_); rotate_left; (· intro V hV; obtain ⟨z1, z2, z3, z4⟩ := HFX.out V hV; clear hV; go_simp; rfl)) | refine LeftL.tkN 9 rfl HS.out ?_
        (intro K' hK'; go_simp; refine hK' _ ?_; clear hK' K')
        first | ((first | refine LeftL.tkF (v := ?_) 10 rfl HS.out ?_ ?_ | refine LeftL.tkG (v := ?_) 10 rfl HS.out ?_ ?_); rotate_left; (· intro V hV; obtain ⟨z1, z2, z3, z4⟩ := HFX.out V hV; clear hV; go_simp; rfl)) | refine LeftL.tkN 10 rfl HS.out ?_
        (intro K' hK'; go_simp; refine hK' _ ?_; clear hK' K')
        first | ((first | refine LeftL.tkF (v := ?_) 11 rfl HS.out ?_ ?_ | refine LeftL.tkG (v := ?_) 11 rfl HS.out ?_ ?_); rotate_left; (· intro V hV; obtain ⟨z1, z2, z3, z4⟩ := HFX.out V hV; clear hV; go_simp; rfl)) | refine LeftL.tkN 11 rfl HS.out ?_
        (intro K' hK'; go_simp; refine hK' _ ?_; clear hK' K')
        first | ((first | refine LeftL.tkF (v := ?_) 12 rfl HS.out ?_ ?_ | refine LeftL.tkG (v := ?_) 12 rfl HS.out ?_ ?_); rotate_left; (· intro V hV; obtain ⟨z1, z2, z3, z4⟩ := HFX.out V hV; clear hV; go_simp; rfl)) | refine LeftL.tkN 12 rfl HS.out ?_
        (intro K' hK'; go_simp; refine hK' _ ?_; clear hK' K')
        first | ((first | refine LeftL.tkF (v := ?_) 13 rfl HS.out ?_ ?_ | refine LeftL.tkG (v := ?_) 13 rfl HS.out ?_ ?_); rotate_left; (· intro V hV; obtain ⟨z1, z2, z3, z4⟩ := HFX.out V hV; clear hV; go_simp; rfl)) | refine LeftL.tkN 13 rfl HS.out ?_
        (intro K' hK'; go_simp; refine hK' _ ?_; clear hK' K')
        first | ((first | refine LeftL.tkF (v := ?_) 14 rfl HS.out ?_ ?_ | refine LeftL.tkG (v := ?_) 14 rfl HS.out ?_ ?_); rotate_left; (· intro V hV; obtain ⟨z1, z2, z3, z4⟩ := HFX.out V hV; clear hV; go_simp; rfl)) | refine LeftL.tkN 14 rfl HS.out ?_
        (intro K' hK'; go_simp; refine hK' _ ?_; clear hK' K')
        first | ((first | refine LeftL.tkF (v := ?_) 15 rfl HS.out ?_ ?_ | refine LeftL.tkG (v := ?_) 15 rfl HS.out ?_ ?_); rotate_left; (· intro V hV; obtain ⟨z1, z2, z3, z4⟩ := HFX.out V hV; clear hV; go_simp; rfl)) | refine LeftL.tkN 15 rfl HS.out ?_
        (intro K' hK'; go_simp; refine hK' _ ?_; clear hK' K')
        first | ((first | refine LeftL.tkF (v := ?_) 16 rfl HS.out ?_ ?_ | refine LeftL.tkG (v := ?_) 16 rfl HS.out ?_ ?_); rotate_left; (· intro V hV; obtain ⟨z1, z2, z3, z4⟩ := HFX.out V hV; clear hV; go_simp; rfl)) | refine LeftL.tkN 16 rfl HS.out ?_
        (intro K' hK'; go_simp; refine hK' _ ?_; clear hK' K')
        first | ((first | refine LeftL.tkF (v := ?_) 17 rfl HS.out ?_ ?_ | refine LeftL.tkG (v := ?_) 17 rfl HS.out ?_ ?_); rotate_left; (· intro V hV; obtain ⟨z1, z2, z3, z4⟩ := HFX.out V hV; clear hV; go_simp; rfl)) | refine LeftL.tkN 17 rfl HS.out ?_
        (intro K' hK'; go_simp; refine hK' _ ?_; clear hK' K')
        first | ((first | refine LeftL.tkF (v := ?_) 18 rfl HS.out ?_ ?_ | refine LeftL.tkG (v := ?_) 18 rfl HS.out ?_ ?_); rotate_left; (· intro V hV; obtain ⟨z1, z2, z3, z4⟩ := HFX.out V hV; clear hV; go_simp; rfl)) | refine LeftL.tkN 18 rfl HS.out ?_
        (intro K' hK'; go_simp; refine hK' _ ?_; clear hK' K')
        first | ((first | refine LeftL.tkF (v := ?_) 19 rfl HS.out ?_ ?_ | refine LeftL.tkG (v := ?_) 19 rfl HS.out ?_ ?_); rotate_left; (· intro V hV; obtain ⟨z1, z2, z3, z4⟩ := HFX.out V hV; clear hV; go_simp; rfl)) | refine LeftL.tkN 19 rfl HS.out ?_
        (intro K' hK'; go_simp; refine hK' _ ?_; clear hK' K')
        first | ((first | refine LeftL.tkF (v := ?_) 20 rfl HS.out ?_ ?_ | refine LeftL.tkG (v := ?_) 20 rfl HS.out ?_ ?_); rotate_left; (· intro V hV; obtain ⟨z1, z2, z3, z4⟩ := HFX.out V hV; clear hV; go_simp; rfl)) | refine LeftL.tkN 20 rfl HS.out ?_
        (intro K' hK'; go_simp; refine hK' _ ?_; clear hK' K')
        first | ((first | refine LeftL.tkF (v := ?_) 21 rfl HS.out ?_ ?_ | refine LeftL.tkG (v := ?_) 21 rfl HS.out ?_ ?_); rotate_left; (· intro V hV; obtain ⟨z1, z2, z3, z4⟩ := HFX.out V hV; clear hV; go_simp; rfl)) | refine LeftL.tkN 21 rfl HS.out ?_
        (intro K' hK'; go_simp; refine hK' _ ?_; clear hK' K')
        first | ((first | refine LeftL.tkF (v := ?_) 22 rfl HS.out ?_ ?_ | refine LeftL.tkG (v := ?_) 22 rfl HS.out ?_ ?_); rotate_left; (· intro V hV; obtain ⟨z1, z2, z3, z4⟩ := HFX.out V hV; clear hV; go_simp; rfl)) | refine LeftL.tkN 22 rfl HS.out ?_
        (intro K' hK'; go_simp; refine hK' _ ?_; clear hK' K')
        first | ((first | refine LeftL.tkF (v := ?_) 23 rfl HS.out ?_ ?_ | refine LeftL.tkG (v := ?_) 23 rfl HS.out ?_ ?_); rotate_left; (· intro V hV; obtain ⟨z1, z2, z3, z4⟩ := HFX.out V hV; clear hV; go_simp; rfl)) | refine LeftL.tkN 23 rfl HS.out ?_
        (intro K' hK'; go_simp; refine hK' _ ?_; clear hK' K')
        first | ((first | refine LeftL.tkF (v := ?_) 24 rfl HS.out ?_ ?_ | refine LeftL.tkG (v := ?_) 24 rfl HS.out ?_ ?_); rotate_left; (· intro V hV; obtain ⟨z1, z2, z3, z4⟩ := HFX.out V hV; clear hV; go_simp; rfl)) | refine LeftL.tkN 24 rfl HS.out ?_
        (intro K' hK'; go_simp; refine hK' _ ?_; clear hK' K')
        first | ((first | refine LeftL.tkF (v := ?_) 25 rfl HS.out ?_ ?_ | refine LeftL.tkG (v := ?_) 25 rfl HS.out ?_ ?_); rotate_left; (· intro V hV; obtain ⟨z1, z2, z3, z4⟩ := HFX.out V hV; clear hV; go_simp; rfl)) | refine LeftL.tkN 25 rfl HS.out ?_
        (intro K' hK'; go_simp; refine hK' _ ?_; clear hK' K')
        first | ((first | refine LeftL.tkF (v := ?_) 26 rfl HS.out ?_ ?_ | refine LeftL.tkG (v := ?_) 26 rfl HS.out ?_ ?_); rotate_left; (· intro V hV; obtain ⟨z1, z2, z3, z4⟩ := HFX.out V hV; clear hV; go_simp; rfl)) | refine LeftL.tkN 26 rfl HS.out ?_
        (intro K' hK'; go_simp; refine hK' _ ?_; clear hK' K')
        first | ((first | refine LeftL.tkF (v := ?_) 27 rfl HS.out ?_ ?_ | refine LeftL.tkG (v := ?_) 27 rfl HS.out ?_ ?_); rotate_left; (· intro V hV; obtain ⟨z1, z2, z3, z4⟩ := HFX.out V hV; clear hV; go_simp; rfl)) | refine LeftL.tkN 27 rfl HS.out ?_
        (intro K' hK'; go_simp; refine hK' _ ?_; clear hK' K')
        first | ((first | refine LeftL.tkF (v := ?_) 28 rfl HS.out ?_ ?_ | refine LeftL.tkG (v := ?_) 28 rfl HS.out ?_ ?_); rotate_left; (· intro V hV; obtain ⟨z1, z2, z3, z4⟩ := HFX.out V hV; clear hV; go_simp; rfl)) | refine LeftL.tkN 28 rfl HS.out ?_
        (intro K' hK'; go_simp; refine hK' _ ?_; clear hK' K')
        first | ((first | refine LeftL.tkF (v := ?_) 29 rfl HS.out ?_ ?_ | refine LeftL.tkG (v := ?_) 29 rfl HS.out ?_ ?_); rotate_left; (· intro V hV; obtain ⟨z1, z2, z3, z4⟩ := HFX.out V hV; clear hV; go_simp; rfl)) | refine LeftL.tkN 29 rfl HS.out ?_
        (intro K' hK'; go_simp; refine hK' _ ?_; clear hK' K')
        first | ((first | refine LeftL.tkF (v := ?_) 30 rfl HS.out ?_ ?_ | refine LeftL.tkG (v := ?_) 30 rfl HS.out ?_ ?_); rotate_left; (· intro V hV; obtain ⟨z1, z2, z3, z4⟩ := HFX.out V hV; clear hV; go_simp; rfl)) | refine LeftL.tkN 30 rfl HS.out ?_
        (intro K' hK'; go_simp; refine hK' _ ?_; clear hK' K')
        refine LeftL.one 31 rfl (by kernel_rfl) ?_
        go_wp2_with fail
        first | refine ⟨fun _ => HS.out, ?_⟩ | refine ⟨HS.out, ?_⟩
        refine LeftL.done (by kernel_rfl) ?_
        have hS := HS.out
        clear HS HFX
        go_upto_region 18 with fail
        obtain ⟨U, hU⟩ : ∃ V, V = wr.drew := ⟨_, rfl⟩
        rw [← hU] at hS ⊢
        clear hU
        have hfx := HFX2.out U hS
        have HS1 := Lib.hid hS
        have HFX := Lib.hid hfx
        clear hfx hS
        refine wp_region_leftL (fun V => Frm U.heap.size [] U V) 1000 (by kernel_rfl) ?_
        have hS : Frm U.heap.size [] U U.drew := (Frm.refl _ _ U).drew
        have HS := Lib.hid hS
        clear hS
        first | ((first | refine LeftL.tkF (v := ?_) 0 rfl HS.out ?_ ?_ | refine LeftL.tkG (v := ?_) 0 rfl HS.out ?_ ?_); rotate_left; (· intro V hV; obtain ⟨z1, z2, z3, z4⟩ := HFX.out V hV; clear hV; go_simp; rfl)) | refine LeftL.tkN 0 rfl HS.out ?_
        (intro K' hK'; go_simp; refine hK' _ ?_; clear hK' K')
        first | ((first | refine LeftL.tkF (v := ?_) 1 rfl HS.out ?_ ?_ | refine LeftL.tkG (v := ?_) 1 rfl HS.out ?_ ?_); rotate_left; (· intro V hV; obtain ⟨z1, z2, z3, z4⟩ := HFX.out V hV; clear hV; go_simp; rfl)) | refine LeftL.tkN 1 rfl HS.out ?_
        (intro K' hK'; go_simp; refine hK' _ ?_; clear hK' K')
        first | ((first | refine LeftL.tkF (v := ?_) 2 rfl HS.out ?_ ?_ | refine LeftL.tkG (v := ?_) 2 rfl HS.out ?_ ?_); rotate_left; (· intro V hV; obtain ⟨z1, z2, z3, z4⟩ := HFX.out V hV; clear hV; go_simp; rfl)) | refine LeftL.tkN 2 rfl HS.out ?_
        (intro K' hK'; go_simp; refine hK' _ ?_; clear hK' K')
        first | ((first | refine LeftL.tkF (v := ?_) 3 rfl HS.out ?_ ?_ | refine LeftL.tkG (v := ?_) 3 rfl HS.out ?_ ?_); rotate_left; (· intro V hV; obtain ⟨z1, z2, z3, z4⟩ := HFX.out V hV; clear hV; go_simp; rfl)) | refine LeftL.tkN 3 rfl HS.out ?_
        (intro K' hK'; go_simp; refine hK' _ ?_; clear hK' K')
        first | ((first | refine LeftL.tkF (v := ?_) 4 rfl HS.out ?_ ?_ | refine LeftL.tkG (v := ?_) 4 rfl HS.out ?_ ?_); rotate_left; (· intro V hV; obtain ⟨z1, z2, z3, z4⟩ := HFX.out V hV; clear hV; go_simp; rfl)) | refine LeftL.tkN 4 rfl HS.out ?_
        (intro K' hK'; go_simp; refine hK' _ ?_; clear hK' K')
        first | ((first | refine LeftL.tkF (v := ?_) 5 rfl HS.out ?_ ?_ | refine LeftL.tkG (v := ?_) 5 rfl HS.out ?_ ?_); rotate_left; (· intro V hV; obtain ⟨z1, z2, z3, z4⟩ := HFX.out V hV; clear hV; go_simp; rfl)) | refine LeftL.tkN 5 rfl HS.out ?_
        (intro K' hK'; go_simp; refine hK' _ ?_; clear hK' K')
        first | ((first | refine LeftL.tkF (v := ?_) 6 rfl HS.out ?_ ?_ | refine LeftL.tkG (v := ?_) 6 rfl HS.out ?_ ?_); rotate_left; (· intro V hV; obtain ⟨z1, z2, z3, z4⟩ := HFX.out V hV; clear hV; go_simp; rfl)) | refine LeftL.tkN 6 rfl HS.out ?_
        (intro K' hK'; go_simp; refine hK' _ ?_; clear hK' K')
        first | ((first | refine LeftL.tkF (v := ?_) 7 rfl HS.out ?_ ?_ | refine LeftL.tkG (v := ?_) 7 rfl HS.out ?_ ?_); rotate_left; (· intro V hV; obtain ⟨z1, z2, z3, z4⟩ := HFX.out V hV; clear hV; go_simp; rfl)) | refine LeftL.tkN 7 rfl HS.out ?_
        (intro K' hK'; go_simp; refine hK' _ ?_; clear hK' K')
        first | ((first | refine LeftL.tkF (v := ?_) 8 rfl HS.out ?_ ?_ | refine LeftL.tkG (v := ?_) 8 rfl HS.out ?_ ?_); rotate_left; (· intro V hV; obtain ⟨z1, z2, z3, z4⟩ := HFX.out V hV; clear hV; go_simp; rfl)) | refine LeftL.tkN 8 rfl HS.out ?_
        (intro K' hK'; go_simp; refine hK' _ ?_; clear hK' K')
        first | ((first | refine LeftL.tkF (v := ?_) 9 rfl HS.out ?_ ?_ | refine LeftL.tkG (v := ?_) 9 rfl HS.out ?_ ?_); rotate_left; (· intro V hV; obtain ⟨z1, z2, z3, z4⟩ := HFX.out V hV; clear hV; go_simp; rfl)) | refine LeftL.tkN 9 rfl HS.out ?_
        (intro K' hK'; go_simp; refine hK' _ ?_; clear hK' K')
        first | ((first | refine LeftL.tkF (v := ?_) 10 rfl HS.out ?_ ?_ | refine LeftL.tkG (v := ?_) 10 rfl HS.out ?_ ?_); rotate_left; (· intro V hV; obtain ⟨z1, z2, z3, z4⟩ := HFX.out V hV; clear hV; go_simp; rfl)) | refine LeftL.tkN 10 rfl HS.out ?_
        (intro K' hK'; go_simp; refine hK' _ ?_; clear hK' K')
        first | ((first | refine LeftL.tkF (v := ?_) 11 rfl HS.out ?_ ?_ | refine LeftL.tkG (v := ?_) 11 rfl HS.out ?_ ?_); rotate_left; (· intro V hV; obtain ⟨z1, z2, z3, z4⟩ := HFX.out V hV; clear hV; go_simp; rfl)) | refine LeftL.tkN 11 rfl HS.out ?_
        (intro K' hK'; go_simp; refine hK' _ ?_; clear hK' K')
        first | ((first | refine LeftL.tkF (v := ?_) 12 rfl HS.out ?_ ?_ | refine LeftL.tkG (v := ?_) 12 rfl HS.out ?_ ?_); rotate_left; (· intro V hV; obtain ⟨z1, z2, z3, z4⟩ := HFX.out V hV; clear hV; go_simp; rfl)) | refine LeftL.tkN 12 rfl HS.out ?_
        (intro K' hK'; go_simp; refine hK' _ ?_; clear hK' K')
        first | ((first | refine LeftL.tkF (v := ?_) 13 rfl HS.out ?_ ?_ | refine LeftL.tkG (v := ?_) 13 rfl HS.out ?_ ?_); rotate_left; (· intro V hV; obtain ⟨z1, z2, z3, z4⟩ := HFX.out V hV; clear hV; go_simp; rfl)) | refine LeftL.tkN 13 rfl HS.out ?_
        (intro K' hK'; go_simp; refine hK' _ ?_; clear hK' K')
        first | ((first | refine LeftL.tkF (v := ?_) 14 rfl HS.out ?_ ?_ | refine LeftL.tkG (v := ?_) 14 rfl HS.out ?_ ?_); rotate_left; (· intro V hV; obtain ⟨z1, z2, z3, z4⟩ := HFX.out V hV; clear hV; go_simp; rfl)) | refine LeftL.tkN 14 rfl HS.out ?_
        (intro K' hK'; go_simp; refine hK' _ ?_; clear hK' K')
        first | ((first | refine LeftL.tkF (v := ?_) 15 rfl HS.out ?_ ?_ | refine LeftL.tkG (v := ?_) 15 rfl HS.out ?_ ?_); rotate_left; (· intro V hV; obtain ⟨z1, z2, z3, z4⟩ := HFX.out V hV; clear hV; go_simp; rfl)) | refine LeftL.tkN 15 rfl HS.out ?_
        (intro K' hK'; go_simp; refine hK' _ ?_; clear hK' K')
        first | ((first | refine LeftL.tkF (v := ?_) 16 rfl HS.out ?_ ?_ | refine LeftL.tkG (v := ?_) 16 rfl HS.out ?_ ?_); rotate_left; (· intro V hV; obtain ⟨z1, z2, z3, z4⟩ := HFX.out V hV; clear hV; go_simp; rfl)) | refine LeftL.tkN 16 rfl HS.out ?_
        (intro K' hK'; go_simp; refine hK' _ ?_; clear hK' K')
        first | ((first | refine LeftL.tkF (v := ?_) 17 rfl HS.out ?_ ?_ | refine LeftL.tkG (v := ?_) 17 rfl HS.out ?_ ?_); rotate_left; (· intro V hV; obtain ⟨z1, z2, z3, z4⟩ := HFX.out V hV; clear hV; go_simp; rfl)) | refine LeftL.tkN 17 rfl HS.out ?_
        (intro K' hK'; go_simp; refine hK' _ ?_; clear hK' K')
        first | ((first | refine LeftL.tkF (v := ?_) 18 rfl HS.out ?_ ?_ | refine LeftL.tkG (v := ?_) 18 rfl HS.out ?_ ?_); rotate_left; (· intro V hV; obtain ⟨z1, z2, z3, z4⟩ := HFX.out V hV; clear hV; go_simp; rfl)) | refine LeftL.tkN 18 rfl HS.out ?_
        (intro K' hK'; go_simp; refine hK' _ ?_; clear hK' K')
        first | ((first | refine LeftL.tkF (v := ?_) 19 rfl HS.out ?_ ?_ | refine LeftL.tkG (v := ?_) 19 rfl HS.out ?_ ?_); rotate_left; (· intro V hV; obtain ⟨z1, z2, z3, z4⟩ := HFX.out V hV; clear hV; go_simp; rfl)) | refine LeftL.tkN 19 rfl HS.out ?_
        (intro K' hK'; go_simp; refine hK' _ ?_; clear hK' K')
        first | ((first | refine LeftL.tkF (v := ?_) 20 rfl HS.out ?_ ?_ | refine LeftL.tkG (v := ?_) 20 rfl HS.out ?_ ?_); rotate_left; (· intro V hV; obtain ⟨z1, z2, z3, z4⟩ := HFX.out V hV; clear hV; go_simp; rfl)) | refine LeftL.tkN 20 rfl HS.out ?_
        (intro K' hK'; go_simp; refine hK' _ ?_; clear hK' K')
        first | ((first | refine LeftL.tkF (v := ?_) 21 rfl HS.out ?_ ?_ | refine LeftL.tkG (v := ?_) 21 rfl HS.out ?_ ?_); rotate_left; (· intro V hV; obtain ⟨z1, z2, z3, z4⟩ := HFX.out V hV; clear hV; go_simp; rfl)) | refine LeftL.tkN 21 rfl HS.out ?_
        (intro K' hK'; go_simp; refine hK' _ ?_; clear hK' K')
        refine LeftL.one 22 rfl (by kernel_rfl) ?_
        go_wp2_with fail
        first | refine ⟨fun _ => HS.out, ?_⟩ | refine ⟨HS.out, ?_⟩
        refine LeftL.done (by kernel_rfl) ?_
        have hf := (HF.out.call HS1.out HF.out.size (by simp)).call HS.out (Nat.le_trans HF.out.size HS1.out.size) (by simp)
        clear HS HS1 HFX HF
        have HF := Lib.hid hf
        clear hf
        go_wp2_with fail
        exact ⟨⟨j + 1, by simp [z4, z5], HJL.out, HF.out⟩, by have := HMS2.out; simpa [intOf, z4, z5] using this⟩
      · subst h1
        subst h2
        subst h3
        go_upto_region 17 with (go_at_call 20; refine HCA2.out.mono ?_; rintro e w' ⟨rfl, rfl⟩)
        have hfx := hfx
        clear cw
        have HFX := Lib.hid hfx
        clear hfx
        refine wp_region_leftL (fun V => Frm wr.heap.size [] wr V) 1000 (by kernel_rfl) ?_
        have hS : Frm wr.heap.size [] wr wr.drew := (Frm.refl _ _ wr).drew
        have HS := Lib.hid hS
        clear hS
        first | ((first | refine LeftL.tkF (v := ?_) 0 rfl HS.out ?_ ?_ | refine LeftL.tkG (v := ?_) 0 rfl HS.out ?_ ?_); rotate_left; (· intro V hV; obtain ⟨z1, z2, z3, z4⟩ := HFX.out V hV; clear hV; go_simp; rfl)) | refine LeftL.tkN 0 rfl HS.out ?_
        (intro K' hK'; go_simp; refine hK' _ ?_; clear hK' K')
        first | ((first | refine LeftL.tkF (v := ?_) 1 rfl HS.out ?_ ?_ | refine LeftL.tkG (v := ?_) 1 rfl HS.out ?_ ?_); rotate_left; (· intro V hV; obtain ⟨z1, z2, z3, z4⟩ := HFX.out V hV; clear hV; go_simp; rfl)) | refine LeftL.tkN 1 rfl HS.out ?_
        (intro K' hK'; go_simp; refine hK' _ ?_; clear hK' K')
        first | ((first | refine LeftL.tkF (v := ?_) 2 rfl HS.out ?_ ?_ | refine LeftL.tkG (v := ?_) 2 rfl HS.out ?_ ?_); rotate_left; (· intro V hV; obtain ⟨z1, z2, z3, z4⟩ := HFX.out V hV; clear hV; go_simp; rfl)) | refine LeftL.tkN 2 rfl HS.out ?_
        (intro K' hK'; go_simp; refine hK' _ ?_; clear hK' K')
        first | ((first | refine LeftL.tkF (v := ?_) 3 rfl HS.out ?_ ?_ | refine LeftL.tkG (v := ?_) 3 rfl HS.out ?_ ?_); rotate_left; (· intro V hV; obtain ⟨z1, z2, z3, z4⟩ := HFX.out V hV; clear hV; go_simp; rfl)) | refine LeftL.tkN 3 rfl HS.out ?_
        (intro K' hK'; go_simp; refine hK' _ ?_; clear hK' K')
        first | ((first | refine LeftL.tkF (v := ?_) 4 rfl HS.out ?_ ?_ | refine LeftL.tkG (v := ?_) 4 rfl HS.out ?_ ?_); rotate_left; (· intro V hV; obtain ⟨z1, z2, z3, z4⟩ := HFX.out V hV; clear hV; go_simp; rfl)) | refine LeftL.tkN 4 rfl HS.out ?_
        (intro K' hK'; go_simp; refine hK' _ ?_; clear hK' K')
        first | ((first | refine LeftL.tkF (v := ?_) 5 rfl HS.out ?_ ?_ | refine LeftL.tkG (v := ?_) 5 rfl HS.out ?_ ?_); rotate_left; (· intro V hV; obtain ⟨z1, z2, z3, z4⟩ := HFX.out V hV; clear hV; go_simp; rfl)) | refine LeftL.tkN 5 rfl HS.out ?_
        (intro K' hK'; go_simp; refine hK' _ ?_; clear hK' K')
        first | ((first | refine LeftL.tkF (v := ?_) 6 rfl HS.out ?_ ?_ | refine LeftL.tkG (v := ?_) 6 rfl HS.out ?_ ?_); rotate_left; (· intro V hV; obtain ⟨z1, z2, z3, z4⟩ := HFX.out V hV; clear hV; go_simp; rfl)) | refine LeftL.tkN 6 rfl HS.out ?_
        (intro K' hK'; go_simp; refine hK' _ ?_; clear hK' K')
        first | ((first | refine LeftL.tkF (v := ?_) 7 rfl HS.out ?_ ?_ | refine LeftL.tkG (v := ?_) 7 rfl HS.out ?_ ?_); rotate_left; (· intro V hV; obtain ⟨z1, z2, z3, z4⟩ := HFX.out V hV; clear hV; go_simp; rfl)) | refine LeftL.tkN 7 rfl HS.out ?_
        (intro K' hK'; go_simp; refine hK' _ ?_; clear hK' K')
        first | ((first | refine LeftL.tkF (v := ?_) 8 rfl HS.out ?_ ?_ | refine LeftL.tkG (v := ?_) 8 rfl HS.out ?_ ?_); rotate_left; (· intro V hV; obtain ⟨z1, z2, z3, z4⟩ := HFX.out V hV; clear hV; go_simp; rfl)) | refine LeftL.tkN 8 rfl HS.out ?_
        (intro K' hK'; go_simp; refine hK' _ ?_; clear hK' K')
        first | ((first | refine LeftL.tkF (v := ?_) 9 rfl HS.out ?_ ?_ | refine LeftL.tkG (v := ?_) 9 rfl HS.out ?_ ?_); rotate_left; (· intro V hV; obtain ⟨z1, z2, z3, z4⟩ := HFX.out V hV; clear hV; go_simp; rfl)) | refine LeftL.tkN 9 rfl HS.out ?_
        (intro K' hK'; go_simp; refine hK' _ ?_; clear hK' K')
        first | ((first | refine LeftL.tkF (v := ?_) 10 rfl HS.out ?_ ?_ | refine LeftL.tkG (v := ?_) 10 rfl HS.out ?_ ?_); rotate_left; (· intro V hV; obtain ⟨z1, z2, z3, z4⟩ := HFX.out V hV; clear hV; go_simp; rfl)) | refine LeftL.tkN 10 rfl HS.out ?_
        (intro K' hK'; go_simp; refine hK' _ ?_; clear hK' K')
        first | ((first | refine LeftL.tkF (v := ?_) 11 rfl HS.out ?_ ?_ | refine LeftL.tkG (v := ?_) 11 rfl HS.out ?_ ?_); rotate_left; (· intro V hV; obtain ⟨z1, z2, z3, z4⟩ := HFX.out V hV; clear hV; go_simp; rfl)) | refine LeftL.tkN 11 rfl HS.out ?_
        (intro K' hK'; go_simp; refine hK' _ ?_; clear hK' K')
        first | ((first | refine LeftL.tkF (v := ?_) 12 rfl HS.out ?_ ?_ | refine LeftL.tkG (v := ?_) 12 rfl HS.out ?_ ?_); rotate_left; (· intro V hV; obtain ⟨z1, z2, z3, z4⟩ := HFX.out V hV; clear hV; go_simp; rfl)) | refine LeftL.tkN 12 rfl HS.out ?_
        (intro K' hK'; go_simp; refine hK' _ ?_; clear hK' K')
        first | ((first | refine LeftL.tkF (v := ?_) 13 rfl HS.out ?_ ?_ | refine LeftL.tkG (v := ?_) 13 rfl HS.out ?_ ?_); rotate_left; (· intro V hV; obtain ⟨z1, z2, z3, z4⟩ := HFX.out V hV; clear hV; go_simp; rfl)) | refine LeftL.tkN 13 rfl HS.out ?_
        (intro K' hK'; go_simp; refine hK' _ ?_; clear hK' K')
        first | ((first | refine LeftL.tkF (v := ?_) 14 rfl HS.out ?_ ?_ | refine LeftL.tkG (v := ?_) 14 rfl HS.out ?_ ?_); rotate_left; (· intro V hV; obtain ⟨z1, z2, z3, z4⟩ := HFX.out V hV; clear hV; go_simp; rfl)) | refine LeftL.tkN 14 rfl HS.out ?_
        (intro K' hK'; go_simp; refine hK' _ ?_; clear hK' K')
        first | ((first | refine LeftL.tkF (v := ?_) 15 rfl HS.out ?_ ?_ | refine LeftL.tkG (v := ?_) 15 rfl HS.out ?_ ?_); rotate_left; (· intro V hV; obtain ⟨z1, z2, z3, z4⟩ := HFX.out V hV; clear hV; go_simp; rfl)) | refine LeftL.tkN 15 rfl HS.out ?_
        (intro K' hK'; go_simp; refine hK' _ ?_; clear hK' K')
        first | ((first | refine LeftL.tkF (v := ?_) 16 rfl HS.out ?_ ?_ | refine LeftL.tkG (v := ?_) 16 rfl HS.out ?_ ?_); rotate_left; (· intro V hV; obtain ⟨z1, z2, z3, z4⟩ := HFX.out V hV; clear hV; go_simp; rfl)) | refine LeftL.tkN 16 rfl HS.out ?_
        (intro K' hK'; go_simp; refine hK' _ ?_; clear hK' K')
        first | ((first | refine LeftL.tkF (v := ?_) 17 rfl HS.out ?_ ?_ | refine LeftL.tkG (v := ?_) 17 rfl HS.out ?_ ?_); rotate_left; (· intro V hV; obtain ⟨z1, z2, z3, z4⟩ := HFX.out V hV; clear hV; go_simp; rfl)) | refine LeftL.tkN 17 rfl HS.out ?_
        (intro K' hK'; go_simp; refine hK' _ ?_; clear hK' K')
        first | ((first | refine LeftL.tkF (v := ?_) 18 rfl HS.out ?_ ?_ | refine LeftL.tkG (v := ?_) 18 rfl HS.out ?_ ?_); rotate_left; (· intro V hV; obtain ⟨z1, z2, z3, z4⟩ := HFX.out V hV; clear hV; go_simp; rfl)) | refine LeftL.tkN 18 rfl HS.out ?_
        (intro K' hK'; go_simp; refine hK' _ ?_; clear hK' K')
        first | ((first | refine LeftL.tkF (v := ?_) 19 rfl HS.out ?_ ?_ | refine LeftL.tkG (v := ?_) 19 rfl HS.out ?_ ?_); rotate_left; (· intro V hV; obtain ⟨z1, z2, z3, z4⟩ := HFX.out V hV; clear hV; go_simp; rfl)) | refine LeftL.tkN 19 rfl HS.out ?_
        (intro K' hK'; go_simp; refine hK' _ ?_; clear hK' K')
        first | ((first | refine LeftL.tkF (v := ?_) 20 rfl HS.out ?_ ?_ | refine LeftL.tkG (v := ?_) 20 rfl HS.out ?_ ?_); rotate_left; (· intro V hV; obtain ⟨z1, z2, z3, z4⟩ := HFX.out V hV; clear hV; go_simp; rfl)) | refine LeftL.tkN 20 rfl HS.out ?_
        (intro K' hK'; go_simp; refine hK' _ ?_; clear hK' K')
        first | ((first | refine LeftL.tkF (v := ?_) 21 rfl HS.out ?_ ?_ | refine LeftL.tkG (v := ?_) 21 rfl HS.out ?_ ?_); rotate_left; (· intro V hV; obtain ⟨z1, z2, z3, z4⟩ := HFX.out V hV; clear hV; go_simp; rfl)) | refine LeftL.tkN 21 rfl HS.out ?_
        (intro K' hK'; go_simp; refine hK' _ ?_; clear hK' K')
        first | ((first | refine LeftL.tkF (v := ?_) 22 rfl HS.out ?_ ?_ | refine LeftL.tkG (v := ?_) 22 rfl HS.out ?_ ?_); rotate_left; (· intro V hV; obtain ⟨z1, z2, z3, z4⟩ := HFX.out V hV; clear hV; go_simp; rfl)) | refine LeftL.tkN 22 rfl HS.out ?_
        (intro K' hK'; go_simp; refine hK' _ ?_; clear hK' K')
        first | ((first | refine LeftL.tkF (v := ?_) 23 rfl HS.out ?_ ?_ | refine LeftL.tkG (v := ?_) 23 rfl HS.out ?_ ?_); rotate_left; (· intro V hV; obtain ⟨z1, z2, z3, z4⟩ := HFX.out V hV; clear hV; go_simp; rfl)) | refine LeftL.tkN 23 rfl HS.out ?_
        (intro K' hK'; go_simp; refine hK' _ ?_; clear hK' K')
        first | ((first | refine LeftL.tkF (v := ?_) 24 rfl HS.out ?_ ?_ | refine LeftL.tkG (v := ?_) 24 rfl HS.out ?_ ?_); rotate_left; (· intro V hV; obtain ⟨z1, z2, z3, z4⟩ := HFX.out V hV; clear hV; go_simp; rfl)) | refine LeftL.tkN 24 rfl HS.out ?_
        (intro K' hK'; go_simp; refine hK' _ ?_; clear hK' K')
        first | ((first | refine LeftL.tkF (v := ?_) 25 rfl HS.out ?_ ?_ | refine LeftL.tkG (v := ?_) 25 rfl HS.out ?_ ?_); rotate_left; (· intro V hV; obtain ⟨z1, z2, z3, z4⟩ := HFX.out V hV; clear hV; go_simp; rfl)) | refine LeftL.tkN 25 rfl HS.out ?_
        (intro K' hK'; go_simp; refine hK' _ ?_; clear hK' K')
        first | ((first | refine LeftL.tkF (v := ?_) 26 rfl HS.out ?_ ?_ | refine LeftL.tkG (v := ?_) 26 rfl HS.out ?_ ?_); rotate_left; (· intro V hV; obtain ⟨z1, z2, z3, z4⟩ := HFX.out V hV; clear hV; go_simp; rfl)) | refine LeftL.tkN 26 rfl HS.out ?_
        (intro K' hK'; go_simp; refine hK' _ ?_; clear hK' K')
        first | ((first | refine LeftL.tkF (v := ?_) 27 rfl HS.out ?_ ?_ | refine LeftL.tkG (v := ?_) 27 rfl HS.out ?_ ?_); rotate_left; (· intro V hV; obtain ⟨z1, z2, z3, z4⟩ := HFX.out V hV; clear hV; go_simp; rfl)) | refine LeftL.tkN 27 rfl HS.out ?_
        (intro K' hK'; go_simp; refine hK' _ ?_; clear hK' K')
        first | ((first | refine LeftL.tkF (v := ?_) 28 rfl HS.out ?_ ?_ | refine LeftL.tkG (v := ?_) 28 rfl HS.out ?_ ?_); rotate_left; (· intro V hV; obtain ⟨z1, z2, z3, z4⟩ := HFX.out V hV; clear hV; go_simp; rfl)) | refine LeftL.tkN 28 rfl HS.out ?_
        (intro K' hK'; go_simp; refine hK' _ ?_; clear hK' K')
        first | ((first | refine LeftL.tkF (v := ?_) 29 rfl HS.out ?_ ?_ | refine LeftL.tkG (v := ?_) 29 rfl HS.out ?_ ?_); rotate_left; (· intro V hV; obtain ⟨z1, z2, z3, z4⟩ := HFX.out V hV; clear hV; go_simp; rfl)) | refine LeftL.tkN 29 rfl HS.out ?_
        (intro K' hK'; go_simp; refine hK' _ ?_; clear hK' K')
        first | ((first | refine LeftL.tkF (v := ?_) 30 rfl HS.out ?_ ?_ | refine LeftL.tkG (v := ?_) 30 rfl HS.out ?_ ?_); rotate_left; (· intro V hV; obtain ⟨z1, z2, z3, z4⟩ := HFX.out V hV; clear hV; go_simp; rfl)) | refine LeftL.tkN 30 rfl HS.out ?_
        (intro K' hK'; go_simp; refine hK' _ ?_; clear hK' K')
        refine LeftL.one 31 rfl (by kernel_rfl) ?_
        go_wp2_with fail
        first | refine ⟨fun _ => HS.out, ?_⟩ | refine ⟨HS.out, ?_⟩
        refine LeftL.done (by kernel_rfl) ?_
        have hS := HS.out
        clear HS HFX
        go_upto_region 18 with fail
        obtain ⟨U, hU⟩ : ∃ V, V = wr.drew := ⟨_, rfl⟩
        rw [← hU] at hS ⊢
        clear hU
        have hfx := HFX2.out U hS
        have HS1 := Lib.hid hS
        have HFX := Lib.hid hfx
        clear hfx hS
        refine wp_region_leftL (fun V => Frm U.heap.size [] U V) 1000 (by kernel_rfl) ?_
        have hS : Frm U.heap.size [] U U.drew := (Frm.refl _ _ U).drew
        have HS := Lib.hid hS
        clear hS
        first | ((first | refine LeftL.tkF (v := ?_) 0 rfl HS.out ?_ ?_ | refine LeftL.tkG (v := ?_) 0 rfl HS.out ?_ ?_); rotate_left; (· intro V hV; obtain ⟨z1, z2, z3, z4⟩ := HFX.out V hV; clear hV; go_simp; rfl)) | refine LeftL.tkN 0 rfl HS.out ?_
        (intro K' hK'; go_simp; refine hK' _ ?_; clear hK' K')
        first | ((first | refine LeftL.tkF (v := ?_) 1 rfl HS.out ?_ ?_ | refine LeftL.tkG (v := ?_) 1 rfl HS.out ?_ ?_); rotate_left; (· intro V hV; obtain ⟨z1, z2, z3, z4⟩ := HFX.out V hV; clear hV; go_simp; rfl)) | refine LeftL.tkN 1 rfl HS.out ?_
        (intro K' hK'; go_simp; refine hK' _ ?_; clear hK' K')
        first | ((first | refine LeftL.tkF (v := ?_) 2 rfl HS.out ?_ ?_ | refine LeftL.tkG (v := ?_) 2 rfl HS.out ?_ ?_); rotate_left; (· intro V hV; obtain ⟨z1, z2, z3, z4⟩ := HFX.out V hV; clear hV; go_simp; rfl)) | refine LeftL.tkN 2 rfl HS.out ?_
        (intro K' hK'; go_simp; refine hK' _ ?_; clear hK' K')
        first | ((first | refine LeftL.tkF (v := ?_) 3 rfl HS.out ?_ ?_ | refine LeftL.tkG (v := ?_) 3 rfl HS.out ?_ ?_); rotate_left; (· intro V hV; obtain ⟨z1, z2, z3, z4⟩ := HFX.out V hV; clear hV; go_simp; rfl)) | refine LeftL.tkN 3 rfl HS.out ?_
        (intro K' hK'; go_simp; refine hK' _ ?_; clear hK' K')
        first | ((first | refine LeftL.tkF (v := ?_) 4 rfl HS.out ?_ ?_ | refine LeftL.tkG (v := ?_) 4 rfl HS.out ?_ ?_); rotate_left; (· intro V hV; obtain ⟨z1, z2, z3, z4⟩ := HFX.out V hV; clear hV; go_simp; rfl)) | refine LeftL.tkN 4 rfl HS.out ?_
        (intro K' hK'; go_simp; refine hK' _ ?_; clear hK' K')
        first | ((first | refine LeftL.tkF (v := ?_) 5 rfl HS.out ?_ ?_ | refine LeftL.tkG (v := ?_) 5 rfl HS.out ?_ ?_); rotate_left; (· intro V hV; obtain ⟨z1, z2, z3, z4⟩ := HFX.out V hV; clear hV; go_simp; rfl)) | refine LeftL.tkN 5 rfl HS.out ?_
        (intro K' hK'; go_simp; refine hK' _ ?_; clear hK' K')
        first | ((first | refine LeftL.tkF (v := ?_) 6 rfl HS.out ?_ ?_ | refine LeftL.tkG (v := ?_) 6 rfl HS.out ?_ ?_); rotate_left; (· intro V hV; obtain ⟨z1, z2, z3, z4⟩ := HFX.out V hV; clear hV; go_simp; rfl)) | refine LeftL.tkN 6 rfl HS.out ?_
        (intro K' hK'; go_simp; refine hK' _ ?_; clear hK' K')
        first | ((first | refine LeftL.tkF (v := ?_) 7 rfl HS.out ?_ ?_ | refine LeftL.tkG (v := ?_) 7 rfl HS.out ?_ ?_); rotate_left; (· intro V hV; obtain ⟨z1, z2, z3, z4⟩ := HFX.out V hV; clear hV; go_simp; rfl)) | refine LeftL.tkN 7 rfl HS.out ?_
        (intro K' hK'; go_simp; refine hK' _ ?_; clear hK' K')
        first | ((first | refine LeftL.tkF (v := ?_) 8 rfl HS.out ?_ ?_ | refine LeftL.tkG (v := ?_) 8 rfl HS.out ?_ ?_); rotate_left; (· intro V hV; obtain ⟨z1, z2, z3, z4⟩ := HFX.out V hV; clear hV; go_simp; rfl)) | refine LeftL.tkN 8 rfl HS.out ?_
        (intro K' hK'; go_simp; refine hK' _ ?_; clear hK' K')
        first | ((first | refine LeftL.tkF (v := ?_) 9 rfl HS.out ?_ ?_ | refine LeftL.tkG (v := ?_) 9 rfl HS.out ?_ ?_); rotate_left; (· intro V hV; obtain ⟨z1, z2, z3, z4⟩ := HFX.out V hV; clear hV; go_simp; rfl)) | refine LeftL.tkN 9 rfl HS.out ?_
        (intro K' hK'; go_simp; refine hK' _ ?_; clear hK' K')
        first | ((first | refine LeftL.tkF (v := ?_) 10 rfl HS.out ?_ ?_ | refine LeftL.tkG (v := ?_) 10 rfl HS.out ?_ ?_); rotate_left; (· intro V hV; obtain ⟨z1, z2, z3, z4⟩ := HFX.out V hV; clear hV; go_simp; rfl)) | refine LeftL.tkN 10 rfl HS.out ?_
        (intro K' hK'; go_simp; refine hK' _ ?_; clear hK' K')
        first | ((first | refine LeftL.tkF (v := ?_) 11 rfl HS.out ?_ ?_ | refine LeftL.tkG (v := ?_) 11 rfl HS.out ?_ ?_); rotate_left; (· intro V hV; obtain ⟨z1, z2, z3, z4⟩ := HFX.out V hV; clear hV; go_simp; rfl)) | refine LeftL.tkN 11 rfl HS.out ?_
        (intro K' hK'; go_simp; refine hK' _ ?_; clear hK' K')
        first | ((first | refine LeftL.tkF (v := ?_) 12 rfl HS.out ?_ ?_ | refine LeftL.tkG (v := ?_) 12 rfl HS.out ?_ ?_); rotate_left; (· intro V hV; obtain ⟨z1, z2, z3, z4⟩ := HFX.out V hV; clear hV; go_simp; rfl)) | refine LeftL.tkN 12 rfl HS.out ?_
        (intro K' hK'; go_simp; refine hK' _ ?_; clear hK' K')
        first | ((first | refine LeftL.tkF (v := ?_) 13 rfl HS.out ?_ ?_ | refine LeftL.tkG (v := ?_) 13 rfl HS.out ?_ ?_); rotate_left; (· intro V hV; obtain ⟨z1, z2, z3, z4⟩ := HFX.out V hV; clear hV; go_simp; rfl)) | refine LeftL.tkN 13 rfl HS.out ?_
        (intro K' hK'; go_simp; refine hK' _ ?_; clear hK' K')
        first | ((first | refine LeftL.tkF (v := ?_) 14 rfl HS.out ?_ ?_ | refine LeftL.tkG (v := ?_) 14 rfl HS.out ?_ ?_); rotate_left; (· intro V hV; obtain ⟨z1, z2, z3, z4⟩ := HFX.out V hV; clear hV; go_simp; rfl)) | refine LeftL.tkN 14 rfl HS.out ?_
        (intro K' hK'; go_simp; refine hK' _ ?_; clear hK' K')
        first | ((first | refine LeftL.tkF (v := ?_) 15 rfl HS.out ?_ ?_ | refine LeftL.tkG (v := ?_) 15 rfl HS.out ?_ ?_); rotate_left; (· intro V hV; obtain ⟨z1, z2, z3, z4⟩ := HFX.out V hV; clear hV; go_simp; rfl)) | refine LeftL.tkN 15 rfl HS.out ?_
        (intro K' hK'; go_simp; refine hK' _ ?_; clear hK' K')
        first | ((first | refine LeftL.tkF (v := ?_) 16 rfl HS.out ?_ ?_ | refine LeftL.tkG (v := ?_) 16 rfl HS.out ?_ ?_); rotate_left; (· intro V hV; obtain ⟨z1, z2, z3, z4⟩ := HFX.out V hV; clear hV; go_simp; rfl)) | refine LeftL.tkN 16 rfl HS.out ?_
        (intro K' hK'; go_simp; refine hK' _ ?_; clear hK' K')
        first | ((first | refine LeftL.tkF (v := ?_) 17 rfl HS.out ?_ ?_ | refine LeftL.tkG (v := ?_) 17 rfl HS.out ?_ ?_); rotate_left; (· intro V hV; obtain ⟨z1, z2, z3, z4⟩ := HFX.out V hV; clear hV; go_simp; rfl)) | refine LeftL.tkN 17 rfl HS.out ?_
        (intro K' hK'; go_simp; refine hK' _ ?_; clear hK' K')
        first | ((first | refine LeftL.tkF (v := ?_) 18 rfl HS.out ?_ ?_ | refine LeftL.tkG (v := ?_) 18 rfl HS.out ?_ ?_); rotate_left; (· intro V hV; obtain ⟨z1, z2, z3, z4⟩ := HFX.out V hV; clear hV; go_simp; rfl)) | refine LeftL.tkN 18 rfl HS.out ?_
        (intro K' hK'; go_simp; refine hK' _ ?_; clear hK' K')
        first | ((first | refine LeftL.tkF (v := ?_) 19 rfl HS.out ?_ ?_ | refine LeftL.tkG (v := ?_) 19 rfl HS.out ?_ ?_); rotate_left; (· intro V hV; obtain ⟨z1, z2, z3, z4⟩ := HFX.out V hV; clear hV; go_simp; rfl)) | refine LeftL.tkN 19 rfl HS.out ?_
        (intro K' hK'; go_simp; refine hK' _ ?_; clear hK' K')
        first | ((first | refine LeftL.tkF (v := ?_) 20 rfl HS.out ?_ ?_ | refine LeftL.tkG (v := ?_) 20 rfl HS.out ?_ ?_); rotate_left; (· intro V hV; obtain ⟨z1, z2, z3, z4⟩ := HFX.out V hV; clear hV; go_simp; rfl)) | refine LeftL.tkN 20 rfl HS.out ?_
        (intro K' hK'; go_simp; refine hK' _ ?_; clear hK' K')
        first | ((first | refine LeftL.tkF (v := ?_) 21 rfl HS.out ?_ ?_ | refine LeftL.tkG (v := ?_) 21 rfl HS.out ?_ ?_); rotate_left; (· intro V hV; obtain ⟨z1, z2, z3, z4⟩ := HFX.out V hV; clear hV; go_simp; rfl)) | refine LeftL.tkN 21 rfl HS.out ?_
        (intro K' hK'; go_simp; refine hK' _ ?_; clear hK' K')
        refine LeftL.one 22 rfl (by kernel_rfl) ?_
        go_wp2_with fail
        first | refine ⟨fun _ => HS.out, ?_⟩ | refine ⟨HS.out, ?_⟩
        refine LeftL.done (by kernel_rfl) ?_
        have hf := (HF.out.call HS1.out HF.out.size (by simp)).call HS.out (Nat.le_trans HF.out.size HS1.out.size) (by simp)
        clear HS HS1 HFX HF
        have HF := Lib.hid hf
        clear hf
        go_wp2_with fail
        exact ⟨⟨j + 1, by simp [z4, z5], HJL.out, HF.out⟩, by have := HMS2.out; simpa [intOf, z4, z5] using this⟩
set_option maxRecDepth 100000 in
theorem incidentSilence_lifted (os : Os) (started : os.Started) (H : Type) (enc : TypeId × Value → H) :
    ReturnsInHanded {} Try.checked os 6 .any (Rows.incidentSilenceSpec.pre6 enc Try.prog Try.f6 Rows.incidentSilenceRow.domain false) (Rows.incidentSilenceSpec.post enc Try.prog Try.f6 false true false false) := by
  refine law_lift (fn := Try.f6) (s := Rows.incidentSilenceSpec) (conds := Rows.incidentSilenceRow.domain) started 3 (by kernel_rfl) Try.func6
      (ChangeSpec.witness6 (enc := enc) (C := Try.checked) false ⟨#[], #[.int .i64 0, .int .i64 0, .slice none 0 0], []⟩ 8 (by kernel_rfl) (by kernel_rfl) (by kernel_rfl) (by kernel_rfl))
      (by rw [Try.params6]; decide +kernel) (by rw [Try.params6]; rfl) (by kernel_rfl) rfl (fun ds h => by match ds, h with | [d1, d2, d3], _ => rfl) ?_
  intro W base args ds ps hval hA
  rw [Try.params6] at hA hval
  obtain ⟨v0, vs0, d0, ds0, p0, q0, hargs, rfl, rfl, h0, r0⟩ := trodAll_cons hA
  obtain ⟨v1, vs1, d1, ds1, p1, q1, rfl, rfl, rfl, h1, r1⟩ := trodAll_cons r0
  obtain ⟨v2, vs2, d2, ds2, p2, q2, rfl, rfl, rfl, h2, r2⟩ := trodAll_cons r1
  obtain ⟨rfl, rfl, rfl⟩ := trodAll_nil r2
  obtain rfl : args = #[v0, v1, v2] := by cases args; simp_all
  obtain ⟨wd, rfl⟩ := okWide_int Try.underlying3 (hval 0 3 v0 rfl rfl)
  obtain ⟨dr, rfl⟩ := okWide_int Try.underlying3 (hval 1 3 v1 rfl rfl)
  obtain ⟨ad, len, cap, b, off, A, rfl, hr, ha⟩ := open_acts (hval 2 31 v2 rfl rfl) h2
  exact silence_walk wd dr ad len cap b off A W hr ha

theorem incidentSilence_over : Rows.incidentSilenceRow.holds Try.pinned (OpenSpec.ofChange Rows.incidentSilenceSpec) :=
  OpenClaim.holds_of_wide 6 Try.f6 rfl rfl rfl rfl rfl rfl rfl ⟨rfl, rfl, rfl, rfl, rfl⟩ rfl rfl rfl rfl rfl (by kernel_rfl) Try.func6 (by kernel_rfl)
    (of_decide_eq_true (by kernel_rfl)) (by unfold Func.isWrapper; first | (rw [if_pos (by decide +kernel)]; kernel_rfl) | (rw [if_neg (by decide +kernel)]; exact ⟨rfl, rfl⟩))
    (fun os started H enc _ => incidentSilence_lifted os started H enc)

/-- The statement. -/
theorem incidentSilence_proved : Rows.IncidentSilenceSaid := incidentSilence_over
end Go.Proofs.Ythgmdilfmeefiaa
