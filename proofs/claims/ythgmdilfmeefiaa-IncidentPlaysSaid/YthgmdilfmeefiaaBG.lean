/-
  Texts J39, J40 of this claim, one behind the other.
-/
import Derived.Test.YthgmdilfmeefiaaBF
namespace Go.Proofs.Ythgmdilfmeefiaa
set_option linter.all false
set_option linter.unusedSimpArgs false
set_option linter.unusedVariables false
open Go.RowKit

def reportsS (s : BS) (i : Int) : List Nat × Int := if thereB s i = true then (ofL s i, 0) else ([], 7)
def missingS (s : BS) (i : Int) : List Nat × Int := if thereB s i = true then (missL s i, 0) else ([], 7)
set_option maxRecDepth 100000 in
set_option maxHeartbeats 8000000 in
theorem reports_call {w : World} {k : Nat} {s : BS} {m : Mem} (h : BookAt w k s m) (i : Int) :
    Calls Try.prog 16 #[.pointer (some ⟨k, 0, none⟩), .int .i64 i] w fun e w' => ∃ v, e = .returned (.tuple #[v, .int .i64 (reportsS s i).2]) ∧ Ints w w' v (reportsS s i).1 ∧ Frm w.heap.size [] w w' := by
  have hf0 := Try.func16
  have c2 : w.cell? ⟨k, 2, none⟩ = some (.bool true) := h.blk.cell 2
  have hex := exists_any h i
  have hca := all_any h i
  obtain ⟨L, hL⟩ : ∃ L, L = ofL s i := ⟨_, rfl⟩
  obtain ⟨res, hres⟩ : ∃ c, c = reportsS s i := ⟨_, rfl⟩
  have hr : res = if thereB s i = true then (L, 0) else ([], 7) := by rw [hres, hL]; rfl
  rw [← hL] at hca
  rw [← hres]
  clear hL hres h
  have C2 := Lib.hid c2
  have HCA := Lib.hid hca
  have HR := Lib.hid hr
  clear hr hca c2
  cases ht : thereB s i
  · rw [ht] at hex
    have HX := Lib.hid hex
    have HT := Lib.hid ht
    clear ht hex
    go_enter Try.func16, Try.ntmps16
    go_wp2_with (first | (go_at_call 35; refine (is_made _ k true C2.out).mono ?_; rintro e w' ⟨rfl, rfl⟩) | (go_at_call 36; refine HX.out.mono ?_; rintro e w' ⟨rfl, rfl⟩))
    refine bodyPost_ret (v := .tuple #[.slice none 0 0, .int .i64 7]) (by simp [results, Try.results16, go_sem]) rfl ?_
    rw [HR.out, HT.out]
    exact ⟨_, rfl, Ints.nil _ _, Frm.refl _ _ _⟩
  rw [ht] at hex
  have HX := Lib.hid hex
  have HT := Lib.hid ht
  clear ht hex
  go_enter Try.func16, Try.ntmps16
  go_wp2_with (first | (go_at_call 35; refine (is_made _ k true C2.out).mono ?_; rintro e w' ⟨rfl, rfl⟩) | (go_at_call 36; refine HX.out.mono ?_; rintro e w' ⟨rfl, rfl⟩))
  refine HCA.out.mono ?_; rintro e w1 ⟨v, rfl, hin, hf⟩
  have HIN := Lib.hid hin
  have HF := Lib.hid hf
  clear hf hin
  go_wp2_with fail
  refine bodyPost_ret (v := .tuple #[v, .int .i64 0]) (by simp [results, Try.results16, go_sem]) rfl ?_
  rw [HR.out, HT.out]
  exact ⟨_, rfl, HIN.out, HF.out⟩
set_option maxRecDepth 100000 in
set_option maxHeartbeats 8000000 in
theorem missing_call {w : World} {k : Nat} {s : BS} {m : Mem} (h : BookAt w k s m) (i : Int) :
    Calls Try.prog 19 #[.pointer (some ⟨k, 0, none⟩), .int .i64 i] w fun e w' => ∃ v, e = .returned (.tuple #[v, .int .i64 (missingS s i).2]) ∧ Ints w w' v (missingS s i).1 ∧ Frm w.heap.size [] w w' := by
  have hf0 := Try.func19
  have c2 : w.cell? ⟨k, 2, none⟩ = some (.bool true) := h.blk.cell 2
  have hex := exists_any h i
  have hca := missing_any h i
  obtain ⟨L, hL⟩ : ∃ L, L = missL s i := ⟨_, rfl⟩
  obtain ⟨res, hres⟩ : ∃ c, c = missingS s i := ⟨_, rfl⟩
  have hr : res = if thereB s i = true then (L, 0) else ([], 7) := by rw [hres, hL]; rfl
  rw [← hL] at hca
  rw [← hres]
  clear hL hres h
  have C2 := Lib.hid c2
  have HCA := Lib.hid hca
  have HR := Lib.hid hr
  clear hr hca c2
  cases ht : thereB s i
  · rw [ht] at hex
    have HX := Lib.hid hex
    have HT := Lib.hid ht
    clear ht hex
    go_enter Try.func19, Try.ntmps19
    go_wp2_with (first | (go_at_call 35; refine (is_made _ k true C2.out).mono ?_; rintro e w' ⟨rfl, rfl⟩) | (go_at_call 36; refine HX.out.mono ?_; rintro e w' ⟨rfl, rfl⟩))
    refine bodyPost_ret (v := .tuple #[.slice none 0 0, .int .i64 7]) (by simp [results, Try.results19, go_sem]) rfl ?_
    rw [HR.out, HT.out]
    exact ⟨_, rfl, Ints.nil _ _, Frm.refl _ _ _⟩
  rw [ht] at hex
  have HX := Lib.hid hex
  have HT := Lib.hid ht
  clear ht hex
  go_enter Try.func19, Try.ntmps19
  go_wp2_with (first | (go_at_call 35; refine (is_made _ k true C2.out).mono ?_; rintro e w' ⟨rfl, rfl⟩) | (go_at_call 36; refine HX.out.mono ?_; rintro e w' ⟨rfl, rfl⟩))
  refine HCA.out.mono ?_; rintro e w1 ⟨v, rfl, hin, hf⟩
  have HIN := Lib.hid hin
  have HF := Lib.hid hf
  clear hf hin
  go_wp2_with fail
  refine bodyPost_ret (v := .tuple #[v, .int .i64 0]) (by simp [results, Try.results19, go_sem]) rfl ?_
  rw [HR.out, HT.out]
  exact ⟨_, rfl, HIN.out, HF.out⟩
set_option maxRecDepth 100000 in
set_option maxHeartbeats 8000000 in
theorem open_call {w : World} {k : Nat} {s : BS} {m : Mem} (h : BookAt w k s m) :
    Calls Try.prog 18 #[.pointer (some ⟨k, 0, none⟩)] w fun e w' => ∃ v, e = .returned v ∧ Ints w w' v (openL s) ∧ Frm w.heap.size [] w w' := by
  have hf0 := Try.func18
  obtain ⟨i0, hi0, hz0, hz1, hz2⟩ := info_parts3 info3x
  have c2 : w.cell? ⟨k, 2, none⟩ = some (.bool true) := h.blk.cell 2
  obtain ⟨qa, qb, qo, qc, hvo, hqw⟩ := h.rwO
  obtain ⟨n, hn⟩ : ∃ n, n = s.opn.length := ⟨_, rfl⟩
  have hnm : n ≤ 500 := by have := h.inv.opn; have := h.inv.max.1; omega
  have c4 : w.cell? ⟨k, 4, none⟩ = some (.slice qa n qc) := by rw [hn, ← hvo]; exact h.blk.cell 4
  obtain ⟨q, hq⟩ : ∃ f : Nat → Bool, f = fun j => s.opn.getD j false := ⟨_, rfl⟩
  have hcell : ∀ V, Frm w.heap.size [] w V → ∀ j, j < n → V.cell? ⟨qb, qo + j, none⟩ = some (.bool (q j)) := fun V hV j hj => by
    have := (hqw.frm hV (Nat.le_refl _)).at_ j (by omega) 0 _ rfl
    rw [Nat.mul_one, Nat.add_zero] at this
    rw [this, hq]
  have had : 0 < n → qa = some ⟨qb, qo, none⟩ := fun h => hqw.ad (by omega)
  have hol : openL s = selK q n := by rw [hq, hn]; rfl
  rw [hol]
  clear hol hq hn hvo hqw h
  have C2 := Lib.hid c2
  have HI0 := Lib.hid hi0
  have HZ0 := Lib.hid hz0
  have HZ1 := Lib.hid hz1
  have HZ2 := Lib.hid hz2
  have HNM := Lib.hid hnm
  have HCE := Lib.hid hcell
  have HAD := Lib.hid had
  clear had hcell hnm hz2 hz1 hz0 hi0 c2
  go_enter Try.func18, Try.ntmps18
  go_wp2_with (go_at_call 35; refine (is_made _ k true C2.out).mono ?_; rintro e w' ⟨rfl, rfl⟩)
  go_loopw [3, 13] (fun s3 s13 wr => ∃ j : Nat, s13 = .int .i64 j ∧ j ≤ n ∧ Ints w wr s3 (selK q j) ∧ Frm w.heap.size [] w wr) (fun _ s13 _ => n - (intOf s13).toNat)
  case atStart => exact ⟨0, rfl, Nat.zero_le _, Ints.nil w w, by repeat (first | with_reducible exact Frm.refl _ _ _ | with_reducible refine Frm.drewN ?_ | with_reducible refine Frm.drew ?_ | ((with_reducible refine Frm.setCell' ?_ ?_); · first | (left; simp; done) | (right; simp; done) | (right; simp; omega)) | ((with_reducible refine Frm.alloc' ?_ ?_); · first | exact Nat.le_refl _ | (simp; done) | (simp; omega)))⟩
  case round =>
    obtain ⟨j, rfl, hj, hin, hf⟩ := hrel
    obtain ⟨ai, ci, rfl⟩ := hin.form
    by_cases hjl : j < n
    rotate_left
    · have hjl' : ¬ (j : Int) < (n : Int) := by omega
      obtain rfl : j = n := by omega
      have HIN := Lib.hid hin
      have HF := Lib.hid hf
      clear hf hin
      go_wp2_with fail
      go_ret
      exact ⟨_, rfl, HIN.out, HF.out⟩
    have hjl' : (j : Int) < (n : Int) := by omega
    have had := HAD.out (by omega)
    subst had
    obtain ⟨y4, y5⟩ := wrapUp hjl (by have := HNM.out; unfold maxLen; omega)
    have hms := meas_up hjl
    have hce := HCE.out wr hf j hjl
    have hsu := selK_succ q j
    cases hqj : q j
    · rw [hqj] at hce
      have hs2 : selK q (j + 1) = selK q j := by rw [hsu, if_neg (by rw [hqj]; simp)]
      clear hsu
      have HIN := Lib.hid hin
      have HF := Lib.hid hf
      have HMS := Lib.hid hms
      have HS2 := Lib.hid hs2
      have HJL := Lib.hid hjl
      have HQJ := Lib.hid hqj
      clear hqj hjl hs2 hms hf hin
      go_wp2_with fail
      exact ⟨⟨j + 1, by simp [y4, y5], HJL.out, by rw [HS2.out]; exact HIN.out, HF.out⟩, by have := HMS.out; simpa [intOf, y4, y5] using this⟩
    rw [hqj] at hce
    have hs2 : selK q (j + 1) = selK q j ++ [j] := by rw [hsu, if_pos hqj]
    have hlk := selK_len q j
    obtain ⟨own, hsl, hown⟩ := hin
    clear hsu
    have HSL := Lib.hid hsl
    have HOWN := Lib.hid hown
    have HF := Lib.hid hf
    have HMS := Lib.hid hms
    have HS2 := Lib.hid hs2
    have HJL := Lib.hid hjl
    have HQJ := Lib.hid hqj
    have HLK := Lib.hid hlk
    clear hlk hqj hjl hs2 hms hf hown hsl
    go_wp2_with (at_builtin; refine hold ?_; intro qG hG)
    refine hG.1 ?_; clear hG qG
    refine wpList_append_sl _ rfl (.tmp 19) (.tmp 21) 42 rfl 3 i0 _ 1 8 Try.underlying42 HI0.out HZ0.out HZ1.out HZ2.out rfl _ _ (intsC (selK q j)) own rfl (HSL.out.alloc _) ⟨wr.heap.size, 0, none⟩ 1 1 [.int .i64 (j : Int)] rfl rfl (news_alloc _ [.int .i64 (j : Int)] _) (by simp [Value.oneCell']) (by have := HLK.out; have := HNM.out; have := HJL.out; unfold maxLen; omega) (by have := HLK.out; have := HNM.out; have := HJL.out; omega) ?_
    intro v3 w3 own3 hs3 hf3 ho3
    have hf := (HF.out.alloc HF.out.size (.cells [Value.int .i64 (j : Int)].toArray 3)).call hf3 (by have := HF.out.size; simp; omega) (fun x hx hm => by have := HOWN.out x (by simpa using hm); omega)
    have hin : Ints w w3 v3 (selK q (j + 1)) := by
      rw [HS2.out]
      refine ⟨own3, by rw [intsC_snoc, List.length_append]; exact hs3, fun b hb => ?_⟩
      rcases ho3 with h | ⟨q, h, hq⟩
      · exact HOWN.out b (by rw [← h]; exact hb)
      · rw [hb] at h; cases h; have := HF.out.size; simp at hq; omega
    clear hs3 hf3 ho3 HSL HF HOWN hce
    have HIN := Lib.hid hin
    have HF := Lib.hid hf
    clear hf hin
    go_wp2_with fail
    exact ⟨⟨j + 1, by simp [y4, y5], HJL.out, HIN.out, HF.out⟩, by have := HMS.out; simpa [intOf, y4, y5] using this⟩
theorem results_ctt {P : Program} {fn : Func} {p q q2 : Tmp} {ty : TypeId} (h : fn.results = #[.cell p ty, .tmp q, .tmp q2]) {tmps : Array Value} {w : World} {b T : Nat} {cs : List Value} (hb : Blk w b T cs) (hp : tmps.getD p undef = .pointer (some ⟨b, 0, none⟩))
    {d : TypeDesc} (hu : P.underlying ty = some d) (hd : rowB d = true) (hi : (P.info? ty).map (·.size) = some cs.length) :
    (results fn tmps).run P w = .ok (.tuple #[.agg cs.toArray, tmps.getD q undef, tmps.getD q2 undef]) w := by
  have hp' : tmps[p]?.getD undef = .pointer (some ⟨b, 0, none⟩) := by simpa using hp
  simp [results, h, hp', asAddr, loadVarB hb hu hd hi]
def zeroR : List Value := [.int .i64 0, .int .i64 0, .string ⟨#[]⟩, .string ⟨#[]⟩, .slice none 0 0, .int .i64 0, .int .i64 0]
set_option maxRecDepth 100000 in
set_option maxHeartbeats 16000000 in
theorem report_call {w : World} {k : Nat} {s : BS} {m : Mem} (h : BookAt w k s m) (i : Int) :
    Calls Try.prog 17 #[.pointer (some ⟨k, 0, none⟩), .int .i64 i] w fun e w' => (if inB i 0 ((s.reps.length : Int) - 1) = true
      then ∃ b' o' c', e = .returned (.tuple #[.agg (repC (s.rp i.toNat) (some ⟨b', o', none⟩) c').toArray, .int .i64 (s.o i.toNat : Int), .int .i64 0]) ∧ SlP w' (.slice (some ⟨b', o', none⟩) (s.rp i.toNat).wh.length c') (s.rp i.toNat).wh (some b') ∧ w.heap.size ≤ b'
      else e = .returned (.tuple #[.agg zeroR.toArray, .int .i64 0, .int .i64 7])) ∧ Frm w.heap.size [] w w' := by
  have hf0 := Try.func17
  have c2 : w.cell? ⟨k, 2, none⟩ = some (.bool true) := h.blk.cell 2
  obtain ⟨ea, eb, eo, ec, hve, hrw⟩ := h.rwE
  obtain ⟨n, hn⟩ : ∃ n, n = s.reps.length := ⟨_, rfl⟩
  have hnm : n ≤ 500 := by rw [hn]; exact h.inv.max.1
  have c3 : w.cell? ⟨k, 3, none⟩ = some (.slice ea n ec) := by rw [hn, ← hve]; exact h.blk.cell 3
  have e1 : IntKind.i64.wrap ((n : Int) - 1) = (n : Int) - 1 := IntWalk.i64_in _ (by omega)
  have e2 : wrap64 ((n : Int) - 1) = (n : Int) - 1 := IntWalk.wrap64_in _ (by omega)
  have hlk := h.blk.lt
  rw [← hn]
  clear hve
  have C2 := Lib.hid c2
  have HN := Lib.hid hn
  have HNM := Lib.hid hnm
  have C3 := Lib.hid c3
  have HRW := Lib.hid hrw
  have HLK := Lib.hid hlk
  have HH := Lib.hid h
  clear h hlk hrw c3 hnm hn c2
  cases hin : inB i 0 ((n : Int) - 1)
  · have HIN := Lib.hid hin
    clear hin
    have c3 := C3.out
    go_enter Try.func17, Try.ntmps17
    go_upto_region 1 with fail
    refine namedC ?_; intro W hW
    have k0 : Blk W w.heap.size 24 zeroR := by rw [hW]; exact Blk.new w 24 zeroR
    have hf : Frm w.heap.size [] w W := by rw [hW]; repeat (first | with_reducible exact Frm.refl _ _ _ | with_reducible refine Frm.drewN ?_ | with_reducible refine Frm.drew ?_ | ((with_reducible refine Frm.setCell' ?_ ?_); · first | (left; simp; done) | (right; simp; done) | (right; simp; omega)) | ((with_reducible refine Frm.alloc' ?_ ?_); · first | exact Nat.le_refl _ | (simp; done) | (simp; omega)))
    have c2' : W.cell? ⟨k, 2, none⟩ = some (.bool true) := (hf.cell HLK.out (by simp)).trans C2.out
    have c3' : W.cell? ⟨k, 3, none⟩ = some (.slice ea n ec) := (hf.cell HLK.out (by simp)).trans C3.out
    clear hW hf0 c3
    have HF := Lib.hid hf
    have K0 := Lib.hid k0
    have C2' := Lib.hid c2'
    clear c2' k0 hf
    go_wp2_with (first | (go_at_call 35; refine (is_made _ k true C2'.out).mono ?_; rintro e w' ⟨rfl, rfl⟩) | (go_at_call 38; (try simp only [e1, e2]); refine (withinI_any _ _ _ _).mono ?_; rintro e w' ⟨rfl, rfl⟩; rw [HIN.out]) | (with_reducible refine atStore 24 rfl ?_; refine stop_ ?_))
    refine go_on ?_
    refine wpList_storeB (P := Try.prog) (cs := zeroR) rfl rfl K0.out rfl rfl rfl info24 (by simp [zeroR, Value.oneCell']) ?_
    have k0 := K0.out.row zeroR
    have hf := HF.out.setRow (g := w.heap.size) (.inr (Nat.le_refl _)) zeroR.toArray
    generalize World.setRow W w.heap.size _ = V at k0 hf ⊢
    clear HF K0 C2' c3'
    dsimp only [Act.put]
    have HF := Lib.hid hf
    have K0 := Lib.hid k0
    clear k0 hf
    go_wp2_with fail
    refine bodyPost_ret (results_ctt Try.results17 K0.out rfl Try.underlying24 rfl info24) rfl ?_
    exact ⟨rfl, HF.out⟩
  obtain ⟨x, hx, hxn⟩ : ∃ x : Nat, i = (x : Int) ∧ x < n := by
    have := inB_iff.1 hin
    exact ⟨i.toNat, by omega, by omega⟩
  subst hx
  have hxs : x < s.reps.length := by have := HN.out; omega
  have had := HRW.out.ad (by have := HN.out; omega)
  subst had
  have hok := HH.out.rok hxs
  have hl24 : ∀ V : World, (∀ (q : Nat) (v : Value), (entAt s m x)[q]? = some v → V.cell? ⟨eb, eo + x * 8 + q, none⟩ = some v) → (loadVar 24 ⟨eb, eo + x * 8, none⟩).run Try.prog V = .ok (.agg (repC (s.rp x) (m.ad x) (m.wc x)).toArray) V := fun V hV =>
    run_loadVar_mid V eb (eo + x * 8) 24 _ _ (fun j v hv => hV j v (ent_part j v hv)) Try.underlying24 rfl info24
  have hcp : ∀ V, Frm w.heap.size [] w V → Calls Try.prog 39 #[.agg (repC (s.rp x) (m.ad x) (m.wc x)).toArray] V fun e w' => (∃ b' o' c', e = .returned (.agg (repC (s.rp x) (some ⟨b', o', none⟩) c').toArray) ∧ SlP w' (.slice (some ⟨b', o', none⟩) (s.rp x).wh.length c') (s.rp x).wh (some b') ∧ V.heap.size ≤ b') ∧ Frm V.heap.size [] V w' := fun V hV =>
    copied_any (s.rp x) (m.ad x) (m.wb x) (m.wo x) (m.wc x) (rep_ok hok).2.1 (rep_wh hok) V ((HH.out.wh x hxs).frm hV (Nat.le_refl _))
  have hcells : ∀ V, Frm w.heap.size [] w V → ∀ (q : Nat) (v : Value), (entAt s m x)[q]? = some v → V.cell? ⟨eb, eo + x * 8 + q, none⟩ = some v := fun V hV => (HRW.out.frm hV (Nat.le_refl _)).at_ x hxs
  have he7 : (entAt s m x)[7]? = some (.int .i64 (s.o x : Int)) := rfl
  rw [Int.toNat_natCast]
  obtain ⟨R, hR⟩ : ∃ z, z = s.rp x := ⟨_, rfl⟩
  obtain ⟨E, hE⟩ : ∃ z, z = entAt s m x := ⟨_, rfl⟩
  obtain ⟨ox, hox⟩ : ∃ z, z = (s.o x : Int) := ⟨_, rfl⟩
  obtain ⟨C, hC⟩ : ∃ z, z = repC (s.rp x) (m.ad x) (m.wc x) := ⟨_, rfl⟩
  rw [← hC] at hl24 hcp
  rw [← hE] at hl24 hcells he7
  rw [← hR] at hcp
  rw [← hox] at he7
  rw [← hR, ← hox]
  have hxn' : (x : Int) < (n : Int) := by omega
  clear hR hE hox hC hok hxs
  have HIN := Lib.hid hin
  have HL24 := Lib.hid hl24
  have HCP := Lib.hid hcp
  have HCE := Lib.hid hcells
  have HE7 := Lib.hid he7
  have HXN := Lib.hid hxn
  clear hxn he7 hcells hcp hl24 hin
  have c3 := C3.out
  go_enter Try.func17, Try.ntmps17
  go_upto_region 1 with fail
  refine namedC ?_; intro W hW
  have k0 : Blk W w.heap.size 24 zeroR := by rw [hW]; exact Blk.new w 24 zeroR
  have hf : Frm w.heap.size [] w W := by rw [hW]; repeat (first | with_reducible exact Frm.refl _ _ _ | with_reducible refine Frm.drewN ?_ | with_reducible refine Frm.drew ?_ | ((with_reducible refine Frm.setCell' ?_ ?_); · first | (left; simp; done) | (right; simp; done) | (right; simp; omega)) | ((with_reducible refine Frm.alloc' ?_ ?_); · first | exact Nat.le_refl _ | (simp; done) | (simp; omega)))
  have c2' : W.cell? ⟨k, 2, none⟩ = some (.bool true) := (hf.cell HLK.out (by simp)).trans C2.out
  have c3' : W.cell? ⟨k, 3, none⟩ = some (.slice (some ⟨eb, eo, none⟩) n ec) := (hf.cell HLK.out (by simp)).trans C3.out
  clear hW hf0 c3
  have HF := Lib.hid hf
  have K0 := Lib.hid k0
  have C2' := Lib.hid c2'
  clear c2' k0 hf
  go_upto_region 5 with (first | (go_at_call 35; refine (is_made _ k true C2'.out).mono ?_; rintro e w' ⟨rfl, rfl⟩) | (go_at_call 38; (try simp only [e1, e2]); refine (withinI_any _ _ _ _).mono ?_; rintro e w' ⟨rfl, rfl⟩; rw [HIN.out]))
  have hfx : ∀ V : World, (V.cell? ⟨k, 3, none⟩ = some (.slice (some ⟨eb, eo, none⟩) n ec) ∧ ∀ (q : Nat) (v : Value), E[q]? = some v → V.cell? ⟨eb, eo + x * 8 + q, none⟩ = some v) → V.cell? ⟨k, 3, none⟩ = some (.slice (some ⟨eb, eo, none⟩) n ec) ∧ V.cell? ⟨eb, eo + x * 8 + 7, none⟩ = some (.int .i64 ox) := fun V hV => ⟨hV.1, hV.2 7 _ HE7.out⟩
  refine wp_region_leftL (fun V => V.cell? ⟨k, 3, none⟩ = some (.slice (some ⟨eb, eo, none⟩) n ec) ∧ ∀ (q : Nat) (v : Value), E[q]? = some v → V.cell? ⟨eb, eo + x * 8 + q, none⟩ = some v) 1000 (by kernel_rfl) ?_
  have hf := HF.out.drew
  have k0 := K0.out.drew
  have hS : W.drew.cell? ⟨k, 3, none⟩ = some (.slice (some ⟨eb, eo, none⟩) n ec) ∧ ∀ (q : Nat) (v : Value), E[q]? = some v → W.drew.cell? ⟨eb, eo + x * 8 + q, none⟩ = some v := ⟨c3', HCE.out _ hf⟩
  obtain ⟨W1, hW1⟩ : ∃ V, V = W.drew := ⟨_, rfl⟩
  rw [← hW1] at hS hf k0 ⊢
  clear hW1 HF K0 C2' c3'
  have HS := Lib.hid hS
  have HFX := Lib.hid hfx
  have HF := Lib.hid hf
  have K0 := Lib.hid k0
  clear k0 hf hfx hS
  first | (refine LeftL.tkG (v := ?_) 0 rfl HS.out ?_ ?_; rotate_left; · intro V hV; obtain ⟨z1, z2⟩ := HFX.out V hV; clear hV; go_simp; rfl) | refine LeftL.tkN 0 rfl HS.out ?_
  (intro K h; go_simp; refine h _ ?_; clear h K)
  first | (refine LeftL.tkG (v := ?_) 1 rfl HS.out ?_ ?_; rotate_left; · intro V hV; obtain ⟨z1, z2⟩ := HFX.out V hV; clear hV; go_simp; rfl) | refine LeftL.tkN 1 rfl HS.out ?_
  (intro K h; go_simp; refine h _ ?_; clear h K)
  first | (refine LeftL.tkG (v := ?_) 2 rfl HS.out ?_ ?_; rotate_left; · intro V hV; obtain ⟨z1, z2⟩ := HFX.out V hV; clear hV; go_simp; rfl) | refine LeftL.tkN 2 rfl HS.out ?_
  (intro K h; go_simp; refine h _ ?_; clear h K)
  first | (refine LeftL.tkG (v := ?_) 3 rfl HS.out ?_ ?_; rotate_left; · intro V hV; obtain ⟨z1, z2⟩ := HFX.out V hV; clear hV; go_simp; rfl) | refine LeftL.tkN 3 rfl HS.out ?_
  (intro K h; go_simp; refine h _ ?_; clear h K)
  first | (refine LeftL.tkG (v := ?_) 4 rfl HS.out ?_ ?_; rotate_left; · intro V hV; obtain ⟨z1, z2⟩ := HFX.out V hV; clear hV; go_simp; rfl) | refine LeftL.tkN 4 rfl HS.out ?_
  (intro K h; go_simp; refine h _ ?_; clear h K)
  first | (refine LeftL.tkG (v := ?_) 5 rfl HS.out ?_ ?_; rotate_left; · intro V hV; obtain ⟨z1, z2⟩ := HFX.out V hV; clear hV; go_simp; rfl) | refine LeftL.tkN 5 rfl HS.out ?_
  (intro K h; go_simp; refine h _ ?_; clear h K)
  first | (refine LeftL.tkG (v := ?_) 6 rfl HS.out ?_ ?_; rotate_left; · intro V hV; obtain ⟨z1, z2⟩ := HFX.out V hV; clear hV; go_simp; rfl) | refine LeftL.tkN 6 rfl HS.out ?_
  (intro K h; go_simp; refine h _ ?_; clear h K)
  refine LeftL.take 7 rfl (by kernel_rfl) (fun _ _ d _ _ h => by cases d <;> exact h) (yields_loadE (ty := 24) rfl rfl rfl (fun V hV => HL24.out V hV.2)) HS.out ?_; (intro K' hK'; go_simp; refine hK' _ ?_; clear hK' K')
  first | (refine LeftL.tkG (v := ?_) 9 rfl HS.out ?_ ?_; rotate_left; · intro V hV; obtain ⟨z1, z2⟩ := HFX.out V hV; clear hV; go_simp; rfl) | refine LeftL.tkN 9 rfl HS.out ?_
  (intro K h; go_simp; refine h _ ?_; clear h K)
  first | (refine LeftL.tkG (v := ?_) 10 rfl HS.out ?_ ?_; rotate_left; · intro V hV; obtain ⟨z1, z2⟩ := HFX.out V hV; clear hV; go_simp; rfl) | refine LeftL.tkN 10 rfl HS.out ?_
  (intro K h; go_simp; refine h _ ?_; clear h K)
  first | (refine LeftL.tkG (v := ?_) 11 rfl HS.out ?_ ?_; rotate_left; · intro V hV; obtain ⟨z1, z2⟩ := HFX.out V hV; clear hV; go_simp; rfl) | refine LeftL.tkN 11 rfl HS.out ?_
  (intro K h; go_simp; refine h _ ?_; clear h K)
  first | (refine LeftL.tkG (v := ?_) 12 rfl HS.out ?_ ?_; rotate_left; · intro V hV; obtain ⟨z1, z2⟩ := HFX.out V hV; clear hV; go_simp; rfl) | refine LeftL.tkN 12 rfl HS.out ?_
  (intro K h; go_simp; refine h _ ?_; clear h K)
  first | (refine LeftL.tkG (v := ?_) 13 rfl HS.out ?_ ?_; rotate_left; · intro V hV; obtain ⟨z1, z2⟩ := HFX.out V hV; clear hV; go_simp; rfl) | refine LeftL.tkN 13 rfl HS.out ?_
  (intro K h; go_simp; refine h _ ?_; clear h K)
  first | (refine LeftL.tkG (v := ?_) 14 rfl HS.out ?_ ?_; rotate_left; · intro V hV; obtain ⟨z1, z2⟩ := HFX.out V hV; clear hV; go_simp; rfl) | refine LeftL.tkN 14 rfl HS.out ?_
  (intro K h; go_simp; refine h _ ?_; clear h K)
  first | (refine LeftL.tkG (v := ?_) 15 rfl HS.out ?_ ?_; rotate_left; · intro V hV; obtain ⟨z1, z2⟩ := HFX.out V hV; clear hV; go_simp; rfl) | refine LeftL.tkN 15 rfl HS.out ?_
  (intro K h; go_simp; refine h _ ?_; clear h K)
  first | (refine LeftL.tkG (v := ?_) 16 rfl HS.out ?_ ?_; rotate_left; · intro V hV; obtain ⟨z1, z2⟩ := HFX.out V hV; clear hV; go_simp; rfl) | refine LeftL.tkN 16 rfl HS.out ?_
  (intro K h; go_simp; refine h _ ?_; clear h K)
  refine LeftL.one 8 rfl (by kernel_rfl) ?_
  go_wp2_with fail
  refine (HCP.out W1 HF.out).mono ?_; rintro e w1 ⟨⟨b', o', c', rfl, hsp, hge⟩, hf1⟩
  have k0 := hf1.blk K0.out K0.out.lt (by simp)
  have hge2 : w.heap.size < b' := Nat.lt_of_lt_of_le K0.out.lt hge
  have hf := HF.out.call hf1 HF.out.size (by simp)
  have hS1 : w1.cell? ⟨k, 3, none⟩ = some (.slice (some ⟨eb, eo, none⟩) n ec) ∧ ∀ (q : Nat) (v : Value), E[q]? = some v → w1.cell? ⟨eb, eo + x * 8 + q, none⟩ = some v := ⟨(hf.cell HLK.out (by simp)).trans C3.out, HCE.out _ hf⟩
  clear hge hf1 HS HF K0
  have HS := Lib.hid hS1
  have HF := Lib.hid hf
  have K0 := Lib.hid k0
  have HSP := Lib.hid hsp
  have HGE := Lib.hid hge2
  clear hge2 hsp k0 hf hS1
  go_wp2_with fail
  first | refine ⟨fun _ => HS.out, ?_⟩ | refine ⟨HS.out, ?_⟩
  refine LeftL.one 17 rfl (by kernel_rfl) ?_
  refine wpList_storeB (P := Try.prog) (ty := 24) (cs := repC R (some ⟨b', o', none⟩) c') rfl rfl K0.out rfl rfl rfl info24 (by simp [repC, Value.oneCell']) ?_
  refine wpList_nil ?_
  have k0 := K0.out.row (repC R (some ⟨b', o', none⟩) c')
  have hf := HF.out.setRow (g := w.heap.size) (.inr (Nat.le_refl _)) (repC R (some ⟨b', o', none⟩) c').toArray
  have hsp : SlP (w1.setRow w.heap.size (repC R (some ⟨b', o', none⟩) c').toArray) (.slice (some ⟨b', o', none⟩) R.wh.length c') R.wh (some b') := HSP.out.kept fun q hq => by cases hq; exact setRow_other _ _ _ _ (by have := HGE.out; omega)
  have hS2 : (w1.setRow w.heap.size (repC R (some ⟨b', o', none⟩) c').toArray).cell? ⟨k, 3, none⟩ = some (.slice (some ⟨eb, eo, none⟩) n ec) ∧ ∀ (q : Nat) (v : Value), E[q]? = some v → (w1.setRow w.heap.size (repC R (some ⟨b', o', none⟩) c').toArray).cell? ⟨eb, eo + x * 8 + q, none⟩ = some v := ⟨(hf.cell HLK.out (by simp)).trans C3.out, HCE.out _ hf⟩
  generalize World.setRow w1 w.heap.size _ = w2 at k0 hf hsp hS2 ⊢
  clear HS HF K0 HSP
  have HS := Lib.hid hS2
  have HF := Lib.hid hf
  have K0 := Lib.hid k0
  have HSP := Lib.hid hsp
  clear hsp k0 hf hS2
  dsimp only [Act.put]
  first | refine ⟨fun _ => HS.out, ?_⟩ | refine ⟨HS.out, ?_⟩
  refine LeftL.one 18 rfl (by kernel_rfl) ?_
  go_wp2_with fail
  first | refine ⟨fun _ => HS.out, ?_⟩ | refine ⟨HS.out, ?_⟩
  refine LeftL.one 19 rfl (by kernel_rfl) ?_
  go_wp2_with fail
  first | refine ⟨fun _ => HS.out, ?_⟩ | refine ⟨HS.out, ?_⟩
  refine LeftL.done (by kernel_rfl) ?_
  go_wp2_with fail
  refine bodyPost_ret (results_ctt Try.results17 K0.out rfl Try.underlying24 rfl info24) rfl ?_
  exact ⟨⟨b', o', c', rfl, HSP.out, Nat.le_of_lt HGE.out⟩, HF.out⟩
end Go.Proofs.Ythgmdilfmeefiaa

namespace Go.Proofs.Ythgmdilfmeefiaa
set_option linter.all false
set_option linter.unusedSimpArgs false
set_option linter.unusedVariables false
open Go.RowKit

theorem flat_set {f g : Nat → List Value} {size : Nat} (hf : ∀ j, (f j).length = size) {i k : Nat} (hk : k < size) (v : Value) (h : g i = (f i).set k v) : ∀ n, i < n → (∀ j, j < n → j ≠ i → g j = f j) → (List.range n).flatMap g = ((List.range n).flatMap f).set (i * size + k) v := by
  intro n
  induction n with
  | zero => intro hi; omega
  | succ n ih =>
    intro hi ho
    rw [List.range_succ, List.flatMap_append, List.flatMap_append]
    simp only [List.flatMap_cons, List.flatMap_nil, List.append_nil]
    have hlen := flat_len hf n
    by_cases e : i < n
    · have hlt : i * size + k < ((List.range n).flatMap f).length := by
        rw [hlen]
        have : (i + 1) * size ≤ n * size := Nat.mul_le_mul_right _ e
        rw [Nat.add_mul] at this
        omega
      rw [List.set_append_left _ _ hlt, ih e (fun j hj hne => ho j (by omega) hne), ho n (by omega) (by omega)]
    · obtain rfl : i = n := by omega
      rw [List.set_append_right _ _ (by rw [hlen]; omega), hlen, Nat.add_sub_cancel_left, h]
      congr 1
      exact flatMap_congr_range (fun j hj => ho j (by omega) (by omega))
/-- The incident of a report. -/
theorem BookRaw.setOf {w : World} {k : Nat} {s : BS} {m : Mem} (h : BookRaw w k s m) (hlen : s.of.length = s.reps.length) {b off cap i : Nat} (hv : m.ve = .slice (some ⟨b, off, none⟩) s.reps.length cap) (hi : i < s.reps.length) (x : Nat) :
    BookRaw (w.setCell ⟨b, off + i * 8 + 7, none⟩ (.int .i64 (x : Int))) k { s with of := s.of.set i x } m := by
  have hs := h.ents
  rw [hv] at hs
  have ho := hs.own_of
  have hb : b ≠ k := fun e => h.ke.1 (by rw [ho, e])
  have hflen := flat_len (f := entAt s m) (size := 8) (fun i => rfl) s.reps.length
  refine ⟨?_, ?_, ?_, ?_, ?_, ?_, h.pv, h.ke, h.eo, h.oq, h.wk⟩
  · exact h.blk.other _ hb _
  · have h1 := hs.set1 (i * 8 + 7) (by rw [hflen]; omega) (.int .i64 (x : Int))
    rw [hv]
    have e : (List.range s.reps.length).flatMap (entAt { s with of := s.of.set i x } m) = ((List.range s.reps.length).flatMap (entAt s m)).set (i * 8 + 7) (.int .i64 (x : Int)) := by
      refine flat_set (f := entAt s m) (size := 8) (fun i => rfl) (by omega) _ ?_ _ hi (fun j hj hne => ?_)
      · have : BS.o { s with of := s.of.set i x } i = x := by
          unfold BS.o
          simp [List.getD_eq_getElem?_getD, List.getElem?_set, show i < s.of.length by omega]
        unfold entAt
        rw [this]
        rfl
      · have : BS.o { s with of := s.of.set i x } j = s.o j := by
          unfold BS.o
          simp [List.getD_eq_getElem?_getD, List.getElem?_set, show i ≠ j by omega]
        unfold entAt
        rw [this]
        rfl
    have e2 : off + (i * 8 + 7) = off + i * 8 + 7 := by omega
    rw [e2] at h1
    rw [e]
    exact h1
  · exact h.opn.setCell _ _ (fun q hq e => (h.eo b ho).1 (by rw [hq]; exact congrArg some e.symm))
  · exact h.prf.setCell _ _ (fun q hq e => (h.eo b ho).2 (by rw [hq]; exact congrArg some e.symm))
  · exact fun i hi => rw_other (h.wh i hi) _ _ (fun e => (h.wk i hi).2.1 (by rw [ho]; exact congrArg some e))
  · intro i hi
    have := h.wl i hi
    show m.wb i < _
    simpa [World.setCell] using this
def joinF (a : Nat) (b : Int) (x : Nat) : Nat := if (x : Int) = b then a else x
/-- The first j reports joined. -/
def stK (s : BS) (a : Nat) (b : Int) (j : Nat) : BS := { s with of := (s.of.take j).map (joinF a b) ++ s.of.drop j }
theorem stK_zero (s : BS) (a : Nat) (b : Int) : stK s a b 0 = s := by simp [stK]
theorem stK_len (s : BS) (a : Nat) (b : Int) (j : Nat) : (stK s a b j).of.length = s.of.length := by
  simp [stK]; omega
theorem stK_all (s : BS) (a : Nat) (b : Int) : stK s a b s.of.length = { s with of := s.of.map (joinF a b) } := by simp [stK]
theorem stK_o (s : BS) (a : Nat) (b : Int) (j : Nat) (hj : j < s.of.length) : (stK s a b j).o j = s.o j := by
  unfold BS.o stK
  dsimp only
  rw [List.getD_eq_getElem?_getD, List.getD_eq_getElem?_getD, List.getElem?_append_right (by simp; omega)]
  simp [Nat.min_eq_left (show j ≤ s.of.length by omega)]
theorem stK_succ (s : BS) (a : Nat) (b : Int) (j : Nat) (hj : j < s.of.length) : (stK s a b (j + 1)).of = (stK s a b j).of.set j (joinF a b (s.o j)) := by
  apply List.ext_getElem?
  intro i
  have hoj : s.o j = s.of[j] := by
    unfold BS.o
    simp [List.getD_eq_getElem?_getD, List.getElem?_eq_getElem hj]
  rw [hoj]
  unfold stK
  dsimp only
  rw [List.getElem?_set]
  have e1 : ∀ j', j' ≤ s.of.length → ((s.of.take j').map (joinF a b) ++ s.of.drop j')[i]? = if i < j' then (s.of[i]?).map (joinF a b) else s.of[i]? := fun j' hj' => by
    rw [List.getElem?_append]
    simp only [List.length_map, List.length_take, Nat.min_eq_left hj', List.getElem?_map, List.getElem?_drop, List.getElem?_take]
    split
    · rename_i h; simp [h]
    · rename_i h; rw [show j' + (i - j') = i by omega]
  rw [e1 _ (by omega), e1 _ (by omega)]
  by_cases e : j = i
  · subst e
    rw [if_pos (by omega), if_pos rfl, if_pos (by have := stK_len s a b j; simp [stK] at this ⊢; omega), List.getElem?_eq_getElem hj]
    rfl
  · rw [if_neg e]
    by_cases h1 : i < j
    · rw [if_pos (by omega), if_pos h1]
    · rw [if_neg (by omega), if_neg h1]
theorem stK_step (s : BS) (a : Nat) (b : Int) (j : Nat) (hj : j < s.of.length) : stK s a b (j + 1) = { stK s a b j with of := (stK s a b j).of.set j (joinF a b (s.o j)) } := by
  rw [← stK_succ s a b j hj]
  rfl
theorem stK_same (s : BS) (a : Nat) (b : Int) (j : Nat) (hj : j < s.of.length) (hne : ¬ (s.o j : Int) = b) : stK s a b (j + 1) = stK s a b j := by
  rw [stK_step s a b j hj]
  have e1 : joinF a b (s.o j) = s.o j := by unfold joinF; rw [if_neg hne]
  have e2 : (stK s a b j).of.set j (s.o j) = (stK s a b j).of := by
    have hlt : j < (stK s a b j).of.length := by rw [stK_len]; exact hj
    have h1 := stK_o s a b j hj
    have h2 : (stK s a b j).o j = (stK s a b j).of[j] := by
      unfold BS.o
      rw [List.getD_eq_getElem?_getD, List.getElem?_eq_getElem hlt]
      rfl
    rw [← h1, h2, List.set_getElem_self]
  rw [e1, e2]
theorem stK_hit (s : BS) (a : Nat) (b : Int) (j : Nat) (hj : j < s.of.length) (he : (s.o j : Int) = b) : stK s a b (j + 1) = { stK s a b j with of := (stK s a b j).of.set j a } := by
  rw [stK_step s a b j hj]
  have e1 : joinF a b (s.o j) = a := by unfold joinF; rw [if_pos he]
  rw [e1]
theorem joined_eq (s : BS) (a : Nat) (b : Nat) : joinedS s (a : Int) (b : Int) = { ({ s with of := s.of.map (joinF a (b : Int)) } : BS) with opn := (s.opn.set a true).set b false } := by
  unfold joinedS joinF
  rw [Int.toNat_natCast, Int.toNat_natCast]
theorem other_no {s : BS} {a b : Int} (h : ∀ i, i < s.reps.length → ¬ ((s.o i : Int) = a ∧ hasI s b (s.rp i) 2 = true)) : otherB s a b = false := by
  unfold otherB
  rw [List.any_eq_false]
  intro j hj
  have := h j (by simpa using hj)
  simp only [Bool.and_eq_true, decide_eq_true_eq]
  exact this
theorem other_yes {s : BS} {a b : Int} {i : Nat} (hi : i < s.reps.length) (h1 : (s.o i : Int) = a) (h2 : hasI s b (s.rp i) 2 = true) : otherB s a b = true := by
  unfold otherB
  rw [List.any_eq_true]
  exact ⟨i, by simpa using hi, by simp [h1, h2]⟩
end Go.Proofs.Ythgmdilfmeefiaa
