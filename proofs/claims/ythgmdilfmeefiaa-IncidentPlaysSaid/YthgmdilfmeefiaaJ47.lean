/-
  The document's book in memory; the reports of an incident by it.
-/
import Derived.Test.YthgmdilfmeefiaaJ45
namespace Go.Proofs.Ythgmdilfmeefiaa
set_option linter.all false
set_option linter.unusedSimpArgs false
set_option linter.unusedVariables false
open Go.RowKit

/-- Where the document's book lies. -/
structure RMem where
  ra : Option Addr
  rb : Nat
  ro : Nat
  rc : Nat
  wa : Nat → Option Addr
  wb : Nat → Nat
  wo : Nat → Nat
  wc : Nat → Nat
  oa : Option Addr
  ob : Nat
  oo : Nat
  oc : Nat
  pa : Option Addr
  pb : Nat
  po : Nat
  pc : Nat
  qa : Option Addr
  qb : Nat
  qo : Nat
  qc : Nat
  xa : Nat → Option Addr
  xb : Nat → Nat
  xo : Nat → Nat
  xc : Nat → Nat
def refC (s : BS) (m : RMem) : List Value := [.int .i64 s.window, .int .i64 s.drift, .slice m.ra s.reps.length m.rc, .slice m.oa s.reps.length m.oc, .slice m.pa s.opn.length m.pc, .slice m.qa s.prf.length m.qc]
structure RefAt (w : World) (s : BS) (m : RMem) : Prop where
  reps : Rw w 7 m.ra m.rb m.ro s.reps.length fun i => repC (s.rp i) (m.wa i) (m.wc i)
  wh : ∀ i, i < s.reps.length → RwP w (m.wa i) (m.wb i) (m.wo i) (s.rp i).wh.length (s.rp i).wh
  of : RwI w m.oa m.ob m.oo s.reps.length fun i => (s.o i : Int)
  opn : Rw w 1 m.pa m.pb m.po s.opn.length fun i => [.bool (s.opn.getD i false)]
  prf : Rw w 6 m.qa m.qb m.qo s.prf.length fun i => prfA (s.pf i) (m.xa i) (m.xc i)
  xw : ∀ i, i < s.prf.length → RwP w (m.xa i) (m.xb i) (m.xo i) (s.pf i).wh.length (s.pf i).wh
  inv : BInv s
/-- None of its blocks is of a list. -/
structure Apart (s : BS) (m : RMem) (S : List Nat) : Prop where
  reps : 0 < s.reps.length → m.rb ∉ S ∧ m.ob ∉ S
  opn : 0 < s.opn.length → m.pb ∉ S
  prf : 0 < s.prf.length → m.qb ∉ S
  wh : ∀ i, i < s.reps.length → 0 < (s.rp i).wh.length → m.wb i ∉ S
  xw : ∀ i, i < s.prf.length → 0 < (s.pf i).wh.length → m.xb i ∉ S
theorem Rw.frm0 {w w' : World} {size : Nat} {ad : Option Addr} {b off n : Nat} {f : Nat → List Value} {S : List Nat} (h : Rw w size ad b off n f) (hf : Frm w.heap.size S w w') (hb : 0 < n → b ∉ S) : Rw w' size ad b off n f := by
  by_cases h0 : 0 < n
  · exact h.frmS hf (hb h0)
  · exact ⟨h.ad, h.len, fun i hi => absurd hi (by omega)⟩
theorem RefAt.frm {w w' : World} {s : BS} {m : RMem} {S : List Nat} (h : RefAt w s m) (hf : Frm w.heap.size S w w') (ha : Apart s m S) : RefAt w' s m :=
  ⟨h.reps.frm0 hf (fun h0 => (ha.reps h0).1), fun i hi => (h.wh i hi).frm0 hf (ha.wh i hi), h.of.frm0 hf (fun h0 => (ha.reps h0).2), h.opn.frm0 hf ha.opn, h.prf.frm0 hf ha.prf, fun i hi => (h.xw i hi).frm0 hf (ha.xw i hi), h.inv⟩
theorem apart_nil (s : BS) (m : RMem) : Apart s m [] := ⟨by simp, by simp, by simp, by simp, by simp⟩
theorem RefAt.still {w w' : World} {s : BS} {m : RMem} (h : RefAt w s m) (hf : Frm w.heap.size [] w w') : RefAt w' s m := h.frm hf (apart_nil s m)
theorem info55 : (Try.prog.info? 55).map (fun i => i.size) = some 6 := by kernel_rfl
theorem load55 {w : World} {b : Nat} {cs : List Value} (h : Blk w b 55 cs) (hl : cs.length = 6) : (loadVar 55 ⟨b, 0, none⟩).run Try.prog w = .ok (.agg cs.toArray) w := loadVarB h (P := Try.prog) Try.underlying55 rfl (by rw [hl]; exact info55)
theorem refC_one (s : BS) (m : RMem) : ∀ u ∈ refC s m, u.oneCell' = true := by simp [refC, Value.oneCell']
set_option maxRecDepth 100000 in
set_option maxHeartbeats 8000000 in
theorem refOf_any {w : World} {s : BS} {m : RMem} (h : RefAt w s m) (i : Int) :
    Calls Try.prog 70 #[.agg (refC s m).toArray, .int .i64 i] w fun e w' => ∃ v, e = .returned v ∧ Ints w w' v (ofL s i) ∧ Frm w.heap.size [] w w' := by
  have hf0 := Try.func70
  obtain ⟨i0, hi0, hz0, hz1, hz2⟩ := info_parts3 info3x
  obtain ⟨n, hn⟩ : ∃ n, n = s.reps.length := ⟨_, rfl⟩
  have hnm : n ≤ 500 := by rw [hn]; exact h.inv.max.1
  obtain ⟨q, hq⟩ : ∃ q : Nat → Bool, q = fun j => decide ((s.o j : Int) = i) := ⟨_, rfl⟩
  have hqj : ∀ j, q j = decide ((s.o j : Int) = i) := fun j => by rw [hq]
  have hol : ofL s i = selK q n := by rw [hq, hn]; rfl
  have hcell : ∀ V, Frm w.heap.size [] w V → ∀ j, j < n → V.cell? ⟨m.ob, m.oo + j, none⟩ = some (.int .i64 (s.o j : Int)) := fun V hV j hj => (h.of.frm hV (Nat.le_refl _)).cellI (by omega)
  have had : 0 < n → m.oa = some ⟨m.ob, m.oo, none⟩ := fun h0 => h.of.ad (by omega)
  obtain ⟨C, hC⟩ : ∃ C, C = refC s m := ⟨_, rfl⟩
  have hc3 : C[3]? = some (.slice m.oa n m.oc) := by rw [hC, hn]; rfl
  obtain ⟨oa, hoa⟩ : ∃ c, c = m.oa := ⟨_, rfl⟩
  obtain ⟨oc, hoc⟩ : ∃ c, c = m.oc := ⟨_, rfl⟩
  rw [← hoa, ← hoc] at hc3
  rw [← hoa] at had
  rw [hol, ← hC]
  clear hol hq hn hC hoa hoc h
  have HI0 := Lib.hid hi0
  have HZ0 := Lib.hid hz0
  have HZ1 := Lib.hid hz1
  have HZ2 := Lib.hid hz2
  have HNM := Lib.hid hnm
  have HQ := Lib.hid hqj
  have HCE := Lib.hid hcell
  have HAD := Lib.hid had
  have HC3 := Lib.hid hc3
  clear hc3 had hcell hqj hnm hz2 hz1 hz0 hi0
  go_enter Try.func70, Try.ntmps70
  go_upto_region 1 with fail
  refine namedC ?_; intro W hW
  have k0 : Blk W w.heap.size 55 C := by rw [hW]; exact Blk.new w 55 C
  have hf : Frm w.heap.size [] w W := by rw [hW]; repeat (first | with_reducible exact Frm.refl _ _ _ | with_reducible refine Frm.drewN ?_ | with_reducible refine Frm.drew ?_ | ((with_reducible refine Frm.setCell' ?_ ?_); · first | (left; simp; done) | (right; simp; done) | (right; simp; omega)) | ((with_reducible refine Frm.alloc' ?_ ?_); · first | exact Nat.le_refl _ | (simp; done) | (simp; omega)))
  clear hW hf0
  have c3 : W.cell? ⟨w.heap.size, 3, none⟩ = some (.slice oa n oc) := (k0.cell 3).trans HC3.out
  have hend : ∀ V, Frm W.heap.size [] W V → Frm w.heap.size [] w V := fun V hV => hf.call hV hf.size (by simp)
  clear k0 hf
  have C3 := Lib.hid c3
  have HEND := Lib.hid hend
  clear hend c3
  go_wp2_with fail
  go_loopw [5, 6] (fun s5 s6 wr => ∃ j : Nat, s6 = .int .i64 j ∧ j ≤ n ∧ Ints W wr s5 (selK q j) ∧ Frm W.heap.size [] W wr) (fun _ s6 _ => n - (intOf s6).toNat)
  case atStart => exact ⟨0, rfl, Nat.zero_le _, Ints.nil W W, Frm.refl _ _ _⟩
  case round =>
    obtain ⟨j, rfl, hj, hin, hf⟩ := hrel
    obtain ⟨ai, ci, rfl⟩ := hin.form
    have c3 := (hf.cell (cell_lt C3.out) (by simp)).trans C3.out
    by_cases hjl : j < n
    rotate_left
    · have hjl' : ¬ (j : Int) < (n : Int) := by omega
      obtain rfl : j = n := by omega
      have hsz := (HEND.out _ (Frm.refl _ _ _)).size
      have hin := hin.base hsz
      have HIN := Lib.hid hin
      have HF := Lib.hid hf
      clear hf hin
      go_wp2_with fail
      go_ret
      exact ⟨_, rfl, HIN.out, HEND.out _ HF.out⟩
    have hjl' : (j : Int) < (n : Int) := by omega
    have had := HAD.out (by omega)
    subst had
    obtain ⟨y4, y5⟩ := wrapUp hjl (by have := HNM.out; unfold maxLen; omega)
    have hms := meas_up hjl
    have cx := HCE.out wr (HEND.out _ hf) j hjl
    have hsu := selK_succ q j
    have hqj := HQ.out j
    obtain ⟨oj, hoj⟩ : ∃ c, c = (s.o j : Int) := ⟨_, rfl⟩
    rw [← hoj] at cx hqj
    clear hoj
    by_cases e : oj = i
    rotate_left
    · have e1 : (oj == i) = false := by simp [e]
      have hs2 : selK q (j + 1) = selK q j := by rw [hsu, if_neg (by rw [hqj]; simp [e])]
      clear hsu hqj
      have HIN := Lib.hid hin
      have HF := Lib.hid hf
      have HS2 := Lib.hid hs2
      have HMS := Lib.hid hms
      have HJL := Lib.hid hjl
      clear hjl hms hs2 hf hin
      go_wp2_with fail
      exact ⟨⟨j + 1, by simp [y4, y5], HJL.out, by rw [HS2.out]; exact HIN.out, HF.out⟩, by have := HMS.out; simpa [intOf, y4, y5] using this⟩
    subst e
    have hs2 : selK q (j + 1) = selK q j ++ [j] := by rw [hsu, if_pos (by rw [hqj]; simp)]
    have hlk := selK_len q j
    obtain ⟨own, hsl, hown⟩ := hin
    clear hsu hqj
    have HSL := Lib.hid hsl
    have HOWN := Lib.hid hown
    have HF := Lib.hid hf
    have HS2 := Lib.hid hs2
    have HMS := Lib.hid hms
    have HJL := Lib.hid hjl
    have HLK := Lib.hid hlk
    clear hlk hjl hms hs2 hf hown hsl
    go_wp2_with (at_builtin; refine hold ?_; intro qG hG)
    refine hG.1 ?_; clear hG qG
    refine wpList_append_sl _ rfl (.tmp 21) (.tmp 23) 42 rfl 3 i0 _ 1 8 Try.underlying42 HI0.out HZ0.out HZ1.out HZ2.out rfl _ _ (intsC (selK q j)) own rfl (HSL.out.alloc _) ⟨wr.heap.size, 0, none⟩ 1 1 [.int .i64 (j : Int)] rfl rfl (news_alloc _ [.int .i64 (j : Int)] _) (by simp [Value.oneCell']) (by have := HLK.out; have := HNM.out; have := HJL.out; unfold maxLen; omega) (by have := HLK.out; have := HNM.out; have := HJL.out; omega) ?_
    intro v3 w3 own3 hs3 hf3 ho3
    have hf := (HF.out.alloc HF.out.size (.cells [Value.int .i64 (j : Int)].toArray 3)).call hf3 (by have := HF.out.size; simp; omega) (fun x hx hm => by have := HOWN.out x (by simpa using hm); omega)
    have hin : Ints W w3 v3 (selK q (j + 1)) := by
      rw [HS2.out]
      refine ⟨own3, by rw [intsC_snoc, List.length_append]; exact hs3, fun b hb => ?_⟩
      rcases ho3 with h | ⟨q, h, hq⟩
      · exact HOWN.out b (by rw [← h]; exact hb)
      · rw [hb] at h; cases h; have := HF.out.size; simp at hq; omega
    clear hs3 hf3 ho3 HSL HF HOWN c3 cx
    have HIN := Lib.hid hin
    have HF := Lib.hid hf
    clear hf hin
    go_wp2_with fail
    exact ⟨⟨j + 1, by simp [y4, y5], HJL.out, HIN.out, HF.out⟩, by have := HMS.out; simpa [intOf, y4, y5] using this⟩
end Go.Proofs.Ythgmdilfmeefiaa
