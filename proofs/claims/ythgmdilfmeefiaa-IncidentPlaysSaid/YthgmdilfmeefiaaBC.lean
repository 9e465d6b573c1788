/-
  Texts J32, J33, J34 of this claim, one behind the other.
-/
import Derived.Test.YthgmdilfmeefiaaBB
namespace Go.Proofs.Ythgmdilfmeefiaa
set_option linter.all false
set_option linter.unusedSimpArgs false
set_option linter.unusedVariables false
open Go.RowKit

theorem there_nat {s : BS} {i : Int} (h : thereB s i = true) : ∃ j : Nat, i = (j : Int) ∧ j < s.opn.length := by
  have := inB_iff.1 h
  exact ⟨i.toNat, by omega, by omega⟩
set_option maxRecDepth 100000 in
set_option maxHeartbeats 16000000 in
theorem close_call {w : World} {k : Nat} {s : BS} {m : Mem} (h : BookAt w k s m) (i : Int) :
    Calls Try.prog 27 #[.pointer (some ⟨k, 0, none⟩), .int .i64 i] w fun e w' => e = .returned (.tuple #[.int .i64 (closeS s i).2.1, .int .i64 (closeS s i).2.2]) ∧ ∃ m', BookAt w' k (closeS s i).1 m' ∧ Turn k w w' s (closeS s i).1 m m' := by
  have hf0 := Try.func27
  have c2 : w.cell? ⟨k, 2, none⟩ = some (.bool true) := h.blk.cell 2
  have hex := exists_any h i
  have hms := missing_any h i
  obtain ⟨L, hL⟩ : ∃ L, L = missL s i := ⟨_, rfl⟩
  rw [← hL] at hms
  have hstay : ∀ w', Frm w.heap.size [] w w' → ∃ m', BookAt w' k s m' ∧ Turn k w w' s s m m' := fun w' hf => ⟨m, h.still hf, ⟨hf.narrow (by simp), fun b hb => .inl hb⟩⟩
  have C2 := Lib.hid c2
  have HH := Lib.hid h
  have HL := Lib.hid hL
  have HMS := Lib.hid hms
  have HST := Lib.hid hstay
  have HEX := Lib.hid hex
  clear hex hstay hms hL h c2
  cases ht : thereB s i
  · have hc : closeS s i = (s, -1, 7) := by unfold closeS; rw [if_pos ht]
    have hex := HEX.out
    rw [ht] at hex
    have HC := Lib.hid hc
    have HT := Lib.hid ht
    have HX := Lib.hid hex
    clear hex ht hc
    go_enter Try.func27, Try.ntmps27
    go_wp2_with (first | (go_at_call 35; refine (is_made _ k true C2.out).mono ?_; rintro e w' ⟨rfl, rfl⟩) | (go_at_call 36; refine HX.out.mono ?_; rintro e w' ⟨rfl, rfl⟩))
    refine bodyPost_ret (v := .tuple #[.int .i64 (-1), .int .i64 7]) (by simp [results, Try.results27, go_sem]) rfl ?_
    rw [HC.out]
    exact ⟨rfl, HST.out _ (Frm.refl _ _ _)⟩
  have hex := HEX.out
  rw [ht] at hex
  obtain ⟨j, hij, hj⟩ := there_nat ht
  subst hij
  obtain ⟨oa, ob, oo, oc, hvo, hrw⟩ := HH.out.rwO
  have had := hrw.ad (by omega)
  subst had
  have hno : s.opn.length ≤ 500 := by have := HH.out.inv.opn; have := HH.out.inv.max.1; omega
  have c4 : w.cell? ⟨k, 4, none⟩ = some (.slice (some ⟨ob, oo, none⟩) s.opn.length oc) := by rw [← hvo]; exact HH.out.blk.cell 4
  have cx : w.cell? ⟨ob, oo + j, none⟩ = some (.bool (s.opn.getD j false)) := by
    have := hrw.at_ j hj 0 _ rfl
    rw [Nat.mul_one, Nat.add_zero] at this
    exact this
  have hj' : (j : Int) < (s.opn.length : Int) := by omega
  obtain ⟨n1, hn1⟩ : ∃ c, c = s.opn.length := ⟨_, rfl⟩
  rw [← hn1] at c4 hj'
  clear hrw
  cases hx : s.opn.getD j false
  · have hc : closeS s (j : Int) = (s, -1, 9) := by unfold closeS; rw [if_neg (by rw [ht]; simp), if_pos (by rw [Int.toNat_natCast]; exact hx)]
    rw [hx] at cx
    have HC := Lib.hid hc
    have HT := Lib.hid ht
    have HX := Lib.hid hex
    have HNO := Lib.hid hno
    have HN1 := Lib.hid hn1
    have HVO := Lib.hid hvo
    have HXX := Lib.hid hx
    have HJ := Lib.hid hj
    clear hj hx hvo hn1 hno hex ht hc
    go_enter Try.func27, Try.ntmps27
    go_wp2_with (first | (go_at_call 35; refine (is_made _ k true C2.out).mono ?_; rintro e w' ⟨rfl, rfl⟩) | (go_at_call 36; refine HX.out.mono ?_; rintro e w' ⟨rfl, rfl⟩))
    refine bodyPost_ret (v := .tuple #[.int .i64 (-1), .int .i64 9]) (by simp [results, Try.results27, go_sem]) rfl ?_
    rw [HC.out]
    exact ⟨rfl, HST.out _ (Frm.refl _ _ _)⟩
  rw [hx] at cx
  have hvo2 := hvo
  have hsl := HH.out.opn
  rw [hvo] at hsl
  have gx := hsl.free (oo + j)
  have hown := hsl.own_of
  clear hsl
  have hob := HH.out.opn.lt ob hown
  have hlk := HH.out.blk.lt
  have HT := Lib.hid ht
  have HX := Lib.hid hex
  have HNO := Lib.hid hno
  have HN1 := Lib.hid hn1
  have HVO := Lib.hid hvo
  have HXX := Lib.hid hx
  have HVO2 := Lib.hid hvo2
  have GX := Lib.hid gx
  have HOWN := Lib.hid hown
  have HOB := Lib.hid hob
  have HLK := Lib.hid hlk
  have CX := Lib.hid cx
  have C4 := Lib.hid c4
  have HJ := Lib.hid hj
  clear hj c4 cx hlk hob hown gx hvo2 hx hvo hn1 hno hex ht
  have cx := CX.out
  have c4 := C4.out
  go_enter Try.func27, Try.ntmps27
  go_wp2_with (first | (go_at_call 35; refine (is_made _ k true C2.out).mono ?_; rintro e w' ⟨rfl, rfl⟩) | (go_at_call 36; refine HX.out.mono ?_; rintro e w' ⟨rfl, rfl⟩))
  refine HMS.out.mono ?_; rintro e w1 ⟨v, rfl, hin, hf⟩
  obtain ⟨ai, ci, rfl⟩ := hin.form
  obtain ⟨own, hsl, hown1⟩ := hin
  clear cx c4
  have cx : w1.cell? ⟨ob, oo + j, none⟩ = some (.bool true) := (hf.cell HOB.out (by simp)).trans CX.out
  have c4 : w1.cell? ⟨k, 4, none⟩ = some (.slice (some ⟨ob, oo, none⟩) n1 oc) := (hf.cell HLK.out (by simp)).trans C4.out
  have gx : w1.frozen? ⟨ob, oo + j, none⟩ = false := by
    have := (HH.out.still hf).opn
    rw [HVO.out] at this
    exact this.free (oo + j)
  clear hown1
  rcases hl : L with _ | ⟨x, l⟩
  · have hc : closeS s (j : Int) = ({ s with opn := s.opn.set j false }, -1, 0) := by
      unfold closeS
      rw [if_neg (by rw [HT.out]; simp), if_neg (by rw [Int.toNat_natCast, HXX.out]; simp), ← HL.out, hl, Int.toNat_natCast]
    have hraw := (HH.out.still hf).raw.setOpen HVO.out (by have := HJ.out; exact this) false
    have hinv := close_inv HH.out.inv (j : Int)
    rw [hc] at hinv
    have hfA := (hf.narrow (S' := m.own k s) (by simp)).setCell (p := ⟨ob, oo + j, none⟩) (.inl (own_iff.2 (.inr (.inr (.inl HOWN.out))))) (.bool false)
    clear hsl hl
    have HC := Lib.hid hc
    have HRAW := Lib.hid hraw
    have HINV := Lib.hid hinv
    have HFA := Lib.hid hfA
    have HF := Lib.hid hf
    clear hf hfA hinv hraw hc
    dsimp only [List.length]
    go_wp2_with fail
    refine bodyPost_ret (v := .tuple #[.int .i64 (-1), .int .i64 0]) (by simp [results, Try.results27, go_sem]) rfl ?_
    rw [HC.out]
    exact ⟨rfl, m, HRAW.out.at_ HINV.out, ⟨HFA.out, fun b hb => .inl hb⟩⟩
  · have hc : closeS s (j : Int) = (s, (x : Int), 9) := by
      unfold closeS
      rw [if_neg (by rw [HT.out]; simp), if_neg (by rw [Int.toNat_natCast, HXX.out]; simp), ← HL.out, hl]
    rw [hl] at hsl
    obtain ⟨ad1, b1, o1, c1, e1, hr1⟩ := ints_at0 hsl
    cases e1
    have had1 := hr1.ad (by simp)
    subst had1
    have cy : w1.cell? ⟨b1, o1, none⟩ = some (.int .i64 (x : Int)) := by
      have := hr1.cellI (i := 0) (by simp)
      rw [Nat.add_zero] at this
      exact this
    obtain ⟨g, hg⟩ : ∃ g, g = (x :: l).length := ⟨_, rfl⟩
    have hg0 : (0 : Int) < (g : Int) := by rw [hg]; simp
    rw [← hg]
    clear hsl hl hr1 hg
    have HC := Lib.hid hc
    have HF := Lib.hid hf
    clear hf hc
    go_wp2_with fail
    refine bodyPost_ret (v := .tuple #[.int .i64 (x : Int), .int .i64 9]) (by simp [results, Try.results27, go_sem]) rfl ?_
    rw [HC.out]
    exact ⟨rfl, HST.out _ HF.out⟩
end Go.Proofs.Ythgmdilfmeefiaa

namespace Go.Proofs.Ythgmdilfmeefiaa
set_option linter.all false
set_option linter.unusedSimpArgs false
set_option linter.unusedVariables false
open Go.RowKit

def prfA (p : Prf) (ad : Option Addr) (cap : Nat) : List Value := [.int .i64 p.kind, .int .i64 p.rep, .int .i64 p.time, .string p.by_, .slice ad p.wh.length cap, .int .i64 p.count]
theorem load99 {w : World} {b : Nat} {cs : List Value} (h : Blk w b 99 cs) (hl : cs.length = 1) : (loadVar 99 ⟨b, 0, none⟩).run Try.prog w = .ok (.agg cs.toArray) w := loadVarB h (P := Try.prog) Try.underlying99 rfl (by rw [hl]; exact info99)
def asR (p : Prf) : Rep := ⟨2, p.time, p.by_, ⟨#[]⟩, p.wh, p.count, 0⟩
theorem right_eq (p : Prf) (r : Rep) : rightB p r = (inB p.kind 1 5 && repB (asR p) && decide (r.time ≤ p.time) && decide (0 ≤ p.count)) := by
  have h1 : inB p.count 0 10000 = (inB p.count (-1) 10000 && decide (0 ≤ p.count)) := by
    rw [Bool.eq_iff_iff, Bool.and_eq_true, inB_iff, inB_iff, decide_eq_true_eq]; omega
  have h2 : repB (asR p) = (inB p.time 0 1073741824 && nameB p.by_ && areaB p.wh && inB p.count (-1) 10000) := by
    unfold repB asR
    have e1 : inB (2 : Int) 1 4 = true := by decide
    have e2 : inB (0 : Int) 0 1000 = true := by decide
    have e3 : (⟨#[]⟩ : ByteArray).size = 0 := rfl
    simp [e1, e2, e3]
  unfold rightB
  rw [h1, h2]
  cases inB p.kind 1 5 <;> cases inB p.time 0 1073741824 <;> cases decide (r.time ≤ p.time) <;> cases nameB p.by_ <;> cases areaB p.wh <;> cases inB p.count (-1) 10000 <;> cases decide (0 ≤ p.count) <;> rfl
theorem info24' : (Try.prog.info? 24).map (fun i => i.size) = some 7 := info24
theorem info39 : (Try.prog.info? 39).map (fun i => i.size) = some 6 := by kernel_rfl
set_option maxRecDepth 100000 in
set_option maxHeartbeats 8000000 in
theorem right_call (p : Prf) (pad : Option Addr) (pb po pcap : Nat) (r : Rep) (ad : Option Addr) (cap : Nat) (w : World) (hp : RwP w pad pb po p.wh.length p.wh) :
    Calls Try.prog 52 #[.agg (prfA p pad pcap).toArray, .agg (repC r ad cap).toArray] w fun e w' => e = .returned (.bool (rightB p r)) ∧ Frm w.heap.size [] w w' := by
  have hf0 := Try.func52
  have hre := right_eq p r
  have hck : ∀ V, Frm w.heap.size [] w V → Calls Try.prog 29 #[.agg #[.int .i64 2, .int .i64 p.time, .string p.by_, .string ⟨#[]⟩, .slice pad p.wh.length pcap, .int .i64 p.count, .int .i64 0]] V fun e w' => e = .returned (.bool (repB (asR p))) ∧ Frm V.heap.size [] V w' := fun V hV => check_any (asR p) pad pb po pcap V (hp.frm hV (Nat.le_refl _))
  obtain ⟨C, hC⟩ : ∃ E, E = repC r ad cap := ⟨_, rfl⟩
  have h1c : C[1]? = some (.int .i64 r.time) := by rw [hC]; rfl
  obtain ⟨rt, hrt⟩ : ∃ c, c = r.time := ⟨_, rfl⟩
  obtain ⟨a1, ha1⟩ : ∃ c, c = inB p.kind 1 5 := ⟨_, rfl⟩
  obtain ⟨a2, ha2⟩ : ∃ c, c = repB (asR p) := ⟨_, rfl⟩
  obtain ⟨res, hres⟩ : ∃ c, c = rightB p r := ⟨_, rfl⟩
  have hw : ∀ V : World, Calls Try.prog 38 #[.int .i64 p.kind, .int .i64 1, .int .i64 5] V fun e w' => e = .returned (.bool a1) ∧ V = w' := fun V => by rw [ha1]; exact withinI_any _ _ _ _
  rw [← hrt, ← ha1, ← ha2, ← hres] at hre
  rw [← ha2] at hck
  rw [← hrt] at h1c
  rw [← hC, ← hres]
  obtain ⟨kind, rep, time, by_, wh, count⟩ := p
  dsimp only [prfA] at hre hck hw ⊢
  obtain ⟨n, hn⟩ : ∃ c, c = wh.length := ⟨_, rfl⟩
  rw [← hn] at hck ⊢
  clear hn hC hrt ha1 ha2 hres hp
  have HRE := Lib.hid hre
  have HCK := Lib.hid hck
  have H1C := Lib.hid h1c
  have HW := Lib.hid hw
  clear hw h1c hck hre
  go_enter Try.func52, Try.ntmps52
  go_upto_region 1 with fail
  refine namedC ?_; intro W hW
  have k0 : Blk W w.heap.size 39 [.int .i64 kind, .int .i64 rep, .int .i64 time, .string by_, .slice pad n pcap, .int .i64 count] := by rw [hW]; refine Blk.alloc' ?_; exact Blk.new w 39 _
  have k1 : Blk W (w.heap.size + 1) 24 C := by rw [hW]; exact Blk.new' _ 24 C (by simp)
  have hf : Frm w.heap.size [] w W := by rw [hW]; repeat (first | with_reducible exact Frm.refl _ _ _ | with_reducible refine Frm.drewN ?_ | with_reducible refine Frm.drew ?_ | ((with_reducible refine Frm.setCell' ?_ ?_); · first | (left; simp; done) | (right; simp; done) | (right; simp; omega)) | ((with_reducible refine Frm.alloc' ?_ ?_); · first | exact Nat.le_refl _ | (simp; done) | (simp; omega)))
  clear hW hf0
  have c0 : W.cell? ⟨w.heap.size, 0, none⟩ = some (.int .i64 kind) := k0.cell 0
  have c2 : W.cell? ⟨w.heap.size, 2, none⟩ = some (.int .i64 time) := k0.cell 2
  have c3 : W.cell? ⟨w.heap.size, 3, none⟩ = some (.string by_) := k0.cell 3
  have c4 : W.cell? ⟨w.heap.size, 4, none⟩ = some (.slice pad n pcap) := k0.cell 4
  have c5 : W.cell? ⟨w.heap.size, 5, none⟩ = some (.int .i64 count) := k0.cell 5
  have d1 : W.cell? ⟨w.heap.size + 1, 1, none⟩ = some (.int .i64 rt) := (k1.cell 1).trans H1C.out
  have HF := Lib.hid hf
  have K0 := Lib.hid k0
  have K1 := Lib.hid k1
  clear k1 k0 hf
  go_wp2_with (with_reducible refine atStore 24 rfl ?_; refine stop_ ?_)
  refine go_on ?_
  refine wpList_storeNew (P := Try.prog) (cs := [.int .i64 2, .int .i64 time, .string by_, .string ⟨#[]⟩, .slice pad n pcap, .int .i64 count, .int .i64 0]) rfl rfl rfl rfl rfl info24 (by simp [Value.oneCell']) ?_
  intro V1 hv1 k5 hz; clear hz
  dsimp only [Act.put]
  obtain ⟨p5, hp5⟩ : ∃ q, q = W.heap.size := ⟨_, rfl⟩
  rw [← hp5] at k5 ⊢
  have hf := HF.out.call hv1 HF.out.size (by simp)
  have k0 := hv1.blk K0.out K0.out.lt (by simp)
  have k1 := hv1.blk K1.out K1.out.lt (by simp)
  clear hp5 hv1 HF K0 K1 c0 c2 c3 c4 c5 d1
  have c0 : V1.cell? ⟨w.heap.size, 0, none⟩ = some (.int .i64 kind) := k0.cell 0
  have c2 : V1.cell? ⟨w.heap.size, 2, none⟩ = some (.int .i64 time) := k0.cell 2
  have c3 : V1.cell? ⟨w.heap.size, 3, none⟩ = some (.string by_) := k0.cell 3
  have c4 : V1.cell? ⟨w.heap.size, 4, none⟩ = some (.slice pad n pcap) := k0.cell 4
  have c5 : V1.cell? ⟨w.heap.size, 5, none⟩ = some (.int .i64 count) := k0.cell 5
  have d1 : V1.cell? ⟨w.heap.size + 1, 1, none⟩ = some (.int .i64 rt) := (k1.cell 1).trans H1C.out
  have HF := Lib.hid hf
  have K0 := Lib.hid k0
  have K1 := Lib.hid k1
  have K5 := Lib.hid k5
  clear k5 k1 k0 hf
  cases a1
  · go_wp2_with (go_at_call 38; refine (HW.out _).mono ?_; rintro e w' ⟨rfl, rfl⟩)
    go_ret
    exact ⟨by rw [HRE.out]; rfl, HF.out⟩
  go_wp2_with (first | (go_at_call 38; refine (HW.out _).mono ?_; rintro e w' ⟨rfl, rfl⟩) | (with_reducible refine atLoad 24 rfl ?_; refine wpList_loadGE rfl rfl rfl (load24 K5.out rfl) ?_))
  refine (HCK.out V1 HF.out).mono ?_; rintro e w1 ⟨rfl, hf1⟩
  have hf := HF.out.call hf1 HF.out.size (by simp)
  have k0 := hf1.blk K0.out K0.out.lt (by simp)
  have k1 := hf1.blk K1.out K1.out.lt (by simp)
  clear hf1 HF K0 K1 K5 c0 c2 c3 c4 c5 d1
  have c0 : w1.cell? ⟨w.heap.size, 0, none⟩ = some (.int .i64 kind) := k0.cell 0
  have c2 : w1.cell? ⟨w.heap.size, 2, none⟩ = some (.int .i64 time) := k0.cell 2
  have c3 : w1.cell? ⟨w.heap.size, 3, none⟩ = some (.string by_) := k0.cell 3
  have c4 : w1.cell? ⟨w.heap.size, 4, none⟩ = some (.slice pad n pcap) := k0.cell 4
  have c5 : w1.cell? ⟨w.heap.size, 5, none⟩ = some (.int .i64 count) := k0.cell 5
  have d1 : w1.cell? ⟨w.heap.size + 1, 1, none⟩ = some (.int .i64 rt) := (k1.cell 1).trans H1C.out
  clear k0 k1
  have HF := Lib.hid hf
  clear hf
  cases a2
  · go_wp2_with fail
    go_ret
    exact ⟨by rw [HRE.out]; rfl, HF.out⟩
  by_cases ht : rt ≤ time
  rotate_left
  · go_wp2_with fail
    go_ret
    exact ⟨by rw [HRE.out]; simp [ht] <;> omega, HF.out⟩
  by_cases hc : 0 ≤ count
  · go_wp2_with fail
    go_ret
    exact ⟨by rw [HRE.out]; simp [ht, hc], HF.out⟩
  · go_wp2_with fail
    go_ret
    exact ⟨by rw [HRE.out]; simp [ht, hc] <;> omega, HF.out⟩
/-- What is made of a proof. -/
def madeV (p : Prf) (ad : Option Addr) (cap : Nat) : Value :=
  if p.kind = 1 then .iface 99 (.agg #[.int .i64 p.count])
  else if p.kind = 2 then .iface 122 (.agg #[.string p.by_])
  else if p.kind = 3 then .iface 123 (.agg #[.string p.by_])
  else if p.kind = 4 then .iface 124 (.agg #[.string p.by_])
  else .iface 126 (.agg #[.slice ad p.wh.length cap, .int .i64 p.time])
theorem made_prf (p : Prf) (ad : Option Addr) (cap : Nat) : IsPrf p (madeV p ad cap) := by
  unfold IsPrf madeV
  refine ⟨fun h => by rw [if_pos h], fun h => ?_⟩
  rw [if_neg h]
  split
  · exact ⟨_, _, rfl, by decide⟩
  · split
    · exact ⟨_, _, rfl, by decide⟩
    · split
      · exact ⟨_, _, rfl, by decide⟩
      · exact ⟨_, _, rfl, by decide⟩
set_option maxRecDepth 100000 in
set_option maxHeartbeats 8000000 in
theorem made_any (p : Prf) (pad : Option Addr) (pcap : Nat) (w : World) :
    Calls Try.prog 53 #[.agg (prfA p pad pcap).toArray] w fun e w' => e = .returned (madeV p pad pcap) ∧ Frm w.heap.size [] w w' := by
  have hf0 := Try.func53
  obtain ⟨kind, rep, time, by_, wh, count⟩ := p
  dsimp only [prfA]
  obtain ⟨n, hn⟩ : ∃ c, c = wh.length := ⟨_, rfl⟩
  have hv : madeV ⟨kind, rep, time, by_, wh, count⟩ pad pcap = if kind = 1 then .iface 99 (.agg #[.int .i64 count]) else if kind = 2 then .iface 122 (.agg #[.string by_]) else if kind = 3 then .iface 123 (.agg #[.string by_]) else if kind = 4 then .iface 124 (.agg #[.string by_]) else .iface 126 (.agg #[.slice pad n pcap, .int .i64 time]) := by rw [hn]; rfl
  rw [← hn]
  obtain ⟨v, hvv⟩ : ∃ c, c = madeV ⟨kind, rep, time, by_, wh, count⟩ pad pcap := ⟨_, rfl⟩
  rw [← hvv] at hv ⊢
  clear hn hvv
  have HV := Lib.hid hv
  clear hv
  go_enter Try.func53, Try.ntmps53
  go_upto_region 1 with fail
  refine namedC ?_; intro W hW
  have k0 : Blk W w.heap.size 39 [.int .i64 kind, .int .i64 rep, .int .i64 time, .string by_, .slice pad n pcap, .int .i64 count] := by rw [hW]; exact Blk.new w 39 _
  have hf : Frm w.heap.size [] w W := by rw [hW]; repeat (first | with_reducible exact Frm.refl _ _ _ | with_reducible refine Frm.drewN ?_ | with_reducible refine Frm.drew ?_ | ((with_reducible refine Frm.setCell' ?_ ?_); · first | (left; simp; done) | (right; simp; done) | (right; simp; omega)) | ((with_reducible refine Frm.alloc' ?_ ?_); · first | exact Nat.le_refl _ | (simp; done) | (simp; omega)))
  clear hW hf0
  have c0 : W.cell? ⟨w.heap.size, 0, none⟩ = some (.int .i64 kind) := k0.cell 0
  have c2 : W.cell? ⟨w.heap.size, 2, none⟩ = some (.int .i64 time) := k0.cell 2
  have c3 : W.cell? ⟨w.heap.size, 3, none⟩ = some (.string by_) := k0.cell 3
  have c4 : W.cell? ⟨w.heap.size, 4, none⟩ = some (.slice pad n pcap) := k0.cell 4
  have c5 : W.cell? ⟨w.heap.size, 5, none⟩ = some (.int .i64 count) := k0.cell 5
  clear k0
  have HF := Lib.hid hf
  clear hf
  by_cases h1 : kind = 1
  · subst h1
    go_wp2_with fail
    go_ret
    exact ⟨by rw [HV.out]; simp, HF.out⟩
  have h1b : (kind == 1) = false := by simp [h1]
  by_cases h2 : kind = 2
  · subst h2
    go_wp2_with fail
    go_ret
    exact ⟨by rw [HV.out]; simp, HF.out⟩
  have h2b : (kind == 2) = false := by simp [h2]
  by_cases h3 : kind = 3
  · subst h3
    go_wp2_with fail
    go_ret
    exact ⟨by rw [HV.out]; simp, HF.out⟩
  have h3b : (kind == 3) = false := by simp [h3]
  by_cases h4 : kind = 4
  · subst h4
    go_wp2_with fail
    go_ret
    exact ⟨by rw [HV.out]; simp, HF.out⟩
  have h4b : (kind == 4) = false := by simp [h4]
  go_wp2_with fail
  go_ret
  exact ⟨by rw [HV.out]; simp [h1, h2, h3, h4], HF.out⟩
set_option maxRecDepth 100000 in
set_option maxHeartbeats 8000000 in
theorem fits_found (count : Int) (wd dr : Int) (r : Rep) (ad : Option Addr) (cap : Nat) (w : World) (hc : 0 ≤ count) (hs : -1 ≤ r.souls ∧ r.souls ≤ 10000) :
    Calls Try.prog 119 #[.agg #[.int .i64 count], .agg #[.int .i64 wd, .int .i64 dr], .agg (repC r ad cap).toArray] w fun e w' => e = .returned (.bool (foundB count r)) ∧ Frm w.heap.size [] w w' := by
  have hf0 := Try.func119
  have hen := fun V => enough_any count r ad cap hc hs V
  obtain ⟨C, hC⟩ : ∃ E, E = repC r ad cap := ⟨_, rfl⟩
  have hz : C.length = 7 := by rw [hC]; rfl
  obtain ⟨res, hres⟩ : ∃ c, c = foundB count r := ⟨_, rfl⟩
  simp only [← hC, ← hres] at hen ⊢
  clear hC hres hc hs
  have HEN := Lib.hid hen
  have HZ := Lib.hid hz
  clear hz hen
  go_enter Try.func119, Try.ntmps119
  go_upto_region 1 with fail
  refine namedC ?_; intro W hW
  have k0 : Blk W w.heap.size 99 [.int .i64 count] := by rw [hW]; refine Blk.alloc' ?_; refine Blk.alloc' ?_; exact Blk.new w 99 _
  have k1 : Blk W (w.heap.size + 1) 60 [.int .i64 wd, .int .i64 dr] := by rw [hW]; refine Blk.alloc' ?_; exact Blk.new' _ 60 [.int .i64 wd, .int .i64 dr] (by simp)
  have k2 : Blk W (w.heap.size + 1 + 1) 24 C := by rw [hW]; exact Blk.new' _ 24 C (by simp)
  have hf : Frm w.heap.size [] w W := by rw [hW]; repeat (first | with_reducible exact Frm.refl _ _ _ | with_reducible refine Frm.drewN ?_ | with_reducible refine Frm.drew ?_ | ((with_reducible refine Frm.setCell' ?_ ?_); · first | (left; simp; done) | (right; simp; done) | (right; simp; omega)) | ((with_reducible refine Frm.alloc' ?_ ?_); · first | exact Nat.le_refl _ | (simp; done) | (simp; omega)))
  clear hW hf0
  have HF := Lib.hid hf
  have K0 := Lib.hid k0
  have K2 := Lib.hid k2
  clear k2 k0 hf
  go_wp2_with (first | (with_reducible refine atLoad 24 rfl ?_; refine wpList_loadE rfl rfl rfl (load24 K2.out HZ.out) ?_) | (with_reducible refine atLoad 99 rfl ?_; refine wpList_loadE rfl rfl rfl (load99 K0.out rfl) ?_))
  refine (HEN.out W).mono ?_; rintro e w1 ⟨rfl, hf1⟩
  have hf := HF.out.call hf1 HF.out.size (by simp)
  clear hf1 HF
  have HF := Lib.hid hf
  clear hf
  go_wp2_with fail
  go_ret
  exact ⟨rfl, HF.out⟩
set_option maxRecDepth 100000 in
set_option maxHeartbeats 8000000 in
theorem fits_owner (by_ : ByteArray) (wd dr : Int) (r : Rep) (ad : Option Addr) (cap : Nat) (w : World) :
    Calls Try.prog 120 #[.agg #[.string by_], .agg #[.int .i64 wd, .int .i64 dr], .agg (repC r ad cap).toArray] w fun e w' => e = .returned (.bool (decide (r.kind = 1) && decide (r.abt = by_))) ∧ Frm w.heap.size [] w w' := by
  have hf0 := Try.func120
  obtain ⟨kind, time, src, abt, wh, souls, trust⟩ := r
  obtain ⟨n, hn⟩ : ∃ c, c = wh.length := ⟨_, rfl⟩
  have e1 : repC ⟨kind, time, src, abt, wh, souls, trust⟩ ad cap = [.int .i64 kind, .int .i64 time, .string src, .string abt, .slice ad n cap, .int .i64 souls, .int .i64 trust] := by rw [hn]; rfl
  rw [e1]
  dsimp only
  clear e1 hn
  go_enter Try.func120, Try.ntmps120
  go_upto_region 1 with fail
  refine namedC ?_; intro W hW
  have k0 : Blk W w.heap.size 122 [.string by_] := by rw [hW]; refine Blk.alloc' ?_; refine Blk.alloc' ?_; exact Blk.new w 122 _
  have k1 : Blk W (w.heap.size + 1) 60 [.int .i64 wd, .int .i64 dr] := by rw [hW]; refine Blk.alloc' ?_; exact Blk.new' _ 60 [.int .i64 wd, .int .i64 dr] (by simp)
  have k2 : Blk W (w.heap.size + 1 + 1) 24 [.int .i64 kind, .int .i64 time, .string src, .string abt, .slice ad n cap, .int .i64 souls, .int .i64 trust] := by rw [hW]; exact Blk.new' _ 24 [.int .i64 kind, .int .i64 time, .string src, .string abt, .slice ad n cap, .int .i64 souls, .int .i64 trust] (by simp)
  have hf : Frm w.heap.size [] w W := by rw [hW]; repeat (first | with_reducible exact Frm.refl _ _ _ | with_reducible refine Frm.drewN ?_ | with_reducible refine Frm.drew ?_ | ((with_reducible refine Frm.setCell' ?_ ?_); · first | (left; simp; done) | (right; simp; done) | (right; simp; omega)) | ((with_reducible refine Frm.alloc' ?_ ?_); · first | exact Nat.le_refl _ | (simp; done) | (simp; omega)))
  clear hW hf0
  have c0 : W.cell? ⟨w.heap.size, 0, none⟩ = some (.string by_) := k0.cell 0
  have d0 : W.cell? ⟨w.heap.size + 1 + 1, 0, none⟩ = some (.int .i64 kind) := k2.cell 0
  have d2 : W.cell? ⟨w.heap.size + 1 + 1, 2, none⟩ = some (.string src) := k2.cell 2
  have d3 : W.cell? ⟨w.heap.size + 1 + 1, 3, none⟩ = some (.string abt) := k2.cell 3
  clear k0 k1 k2
  have HF := Lib.hid hf
  clear hf
  by_cases h1 : kind = 1
  rotate_left
  · have h1b : (kind == 1) = false := by simp [h1]
    go_wp2_with fail
    go_ret
    exact ⟨by simp [h1], HF.out⟩
  subst h1
  by_cases hs : abt = by_
  · subst hs
    go_wp2_with fail
    go_ret
    exact ⟨by simp, HF.out⟩
  have hs1 : ¬ abt.toList = by_.toList := fun h => hs (lst_inj h)
  have hs2 : (abt.toList == by_.toList) = false := by simp [hs1]
  have hs3 : ¬ by_ = abt := fun h => hs h.symm
  go_wp2_with fail
  go_ret
  exact ⟨by simp [hs], HF.out⟩
set_option maxRecDepth 100000 in
set_option maxHeartbeats 8000000 in
theorem fits_withdrawn (by_ : ByteArray) (wd dr : Int) (r : Rep) (ad : Option Addr) (cap : Nat) (w : World) :
    Calls Try.prog 122 #[.agg #[.string by_], .agg #[.int .i64 wd, .int .i64 dr], .agg (repC r ad cap).toArray] w fun e w' => e = .returned (.bool ((decide (r.kind = 2) || decide (r.kind = 3)) && decide (by_ = r.src))) ∧ Frm w.heap.size [] w w' := by
  have hf0 := Try.func122
  obtain ⟨kind, time, src, abt, wh, souls, trust⟩ := r
  obtain ⟨n, hn⟩ : ∃ c, c = wh.length := ⟨_, rfl⟩
  have e1 : repC ⟨kind, time, src, abt, wh, souls, trust⟩ ad cap = [.int .i64 kind, .int .i64 time, .string src, .string abt, .slice ad n cap, .int .i64 souls, .int .i64 trust] := by rw [hn]; rfl
  rw [e1]
  dsimp only
  clear e1 hn
  go_enter Try.func122, Try.ntmps122
  go_upto_region 1 with fail
  refine namedC ?_; intro W hW
  have k0 : Blk W w.heap.size 124 [.string by_] := by rw [hW]; refine Blk.alloc' ?_; refine Blk.alloc' ?_; exact Blk.new w 124 _
  have k1 : Blk W (w.heap.size + 1) 60 [.int .i64 wd, .int .i64 dr] := by rw [hW]; refine Blk.alloc' ?_; exact Blk.new' _ 60 [.int .i64 wd, .int .i64 dr] (by simp)
  have k2 : Blk W (w.heap.size + 1 + 1) 24 [.int .i64 kind, .int .i64 time, .string src, .string abt, .slice ad n cap, .int .i64 souls, .int .i64 trust] := by rw [hW]; exact Blk.new' _ 24 [.int .i64 kind, .int .i64 time, .string src, .string abt, .slice ad n cap, .int .i64 souls, .int .i64 trust] (by simp)
  have hf : Frm w.heap.size [] w W := by rw [hW]; repeat (first | with_reducible exact Frm.refl _ _ _ | with_reducible refine Frm.drewN ?_ | with_reducible refine Frm.drew ?_ | ((with_reducible refine Frm.setCell' ?_ ?_); · first | (left; simp; done) | (right; simp; done) | (right; simp; omega)) | ((with_reducible refine Frm.alloc' ?_ ?_); · first | exact Nat.le_refl _ | (simp; done) | (simp; omega)))
  clear hW hf0
  have c0 : W.cell? ⟨w.heap.size, 0, none⟩ = some (.string by_) := k0.cell 0
  have d0 : W.cell? ⟨w.heap.size + 1 + 1, 0, none⟩ = some (.int .i64 kind) := k2.cell 0
  have d2 : W.cell? ⟨w.heap.size + 1 + 1, 2, none⟩ = some (.string src) := k2.cell 2
  have d3 : W.cell? ⟨w.heap.size + 1 + 1, 3, none⟩ = some (.string abt) := k2.cell 3
  clear k0 k1 k2
  have HF := Lib.hid hf
  clear hf
  by_cases h2 : kind = 2
  · subst h2
    by_cases hs : src = by_
    · subst hs
      go_wp2_with fail
      go_ret
      exact ⟨by simp, HF.out⟩
    have hs1 : ¬ src.toList = by_.toList := fun h => hs (lst_inj h)
    have hs2 : (src.toList == by_.toList) = false := by simp [hs1]
    have hs3 : ¬ by_ = src := fun h => hs h.symm
    go_wp2_with fail
    go_ret
    exact ⟨by simp [hs, hs3], HF.out⟩
  have h2b : (kind == 2) = false := by simp [h2]
  by_cases h3 : kind = 3
  rotate_left
  · have h3b : (kind == 3) = false := by simp [h3]
    go_wp2_with fail
    go_ret
    exact ⟨by simp [h2, h3], HF.out⟩
  subst h3
  by_cases hs : src = by_
  · subst hs
    go_wp2_with fail
    go_ret
    exact ⟨by simp, HF.out⟩
  have hs1 : ¬ src.toList = by_.toList := fun h => hs (lst_inj h)
  have hs2 : (src.toList == by_.toList) = false := by simp [hs1]
  have hs3 : ¬ by_ = src := fun h => hs h.symm
  go_wp2_with fail
  go_ret
  exact ⟨by simp [hs, hs3], HF.out⟩
set_option maxRecDepth 100000 in
set_option maxHeartbeats 8000000 in
theorem fits_arrived (by_ : ByteArray) (wd dr : Int) (r : Rep) (ad : Option Addr) (cap : Nat) (w : World) :
    Calls Try.prog 121 #[.agg #[.string by_], .agg #[.int .i64 wd, .int .i64 dr], .agg (repC r ad cap).toArray] w fun e w' => e = .returned (.bool (decide (r.kind = 4) && decide (by_ ≠ r.src) && decide (r.abt.size ≠ 0))) ∧ Frm w.heap.size [] w w' := by
  have hf0 := Try.func121
  obtain ⟨kind, time, src, abt, wh, souls, trust⟩ := r
  obtain ⟨n, hn⟩ : ∃ c, c = wh.length := ⟨_, rfl⟩
  have e1 : repC ⟨kind, time, src, abt, wh, souls, trust⟩ ad cap = [.int .i64 kind, .int .i64 time, .string src, .string abt, .slice ad n cap, .int .i64 souls, .int .i64 trust] := by rw [hn]; rfl
  rw [e1]
  dsimp only
  clear e1 hn
  go_enter Try.func121, Try.ntmps121
  go_upto_region 1 with fail
  refine namedC ?_; intro W hW
  have k0 : Blk W w.heap.size 123 [.string by_] := by rw [hW]; refine Blk.alloc' ?_; refine Blk.alloc' ?_; exact Blk.new w 123 _
  have k1 : Blk W (w.heap.size + 1) 60 [.int .i64 wd, .int .i64 dr] := by rw [hW]; refine Blk.alloc' ?_; exact Blk.new' _ 60 [.int .i64 wd, .int .i64 dr] (by simp)
  have k2 : Blk W (w.heap.size + 1 + 1) 24 [.int .i64 kind, .int .i64 time, .string src, .string abt, .slice ad n cap, .int .i64 souls, .int .i64 trust] := by rw [hW]; exact Blk.new' _ 24 [.int .i64 kind, .int .i64 time, .string src, .string abt, .slice ad n cap, .int .i64 souls, .int .i64 trust] (by simp)
  have hf : Frm w.heap.size [] w W := by rw [hW]; repeat (first | with_reducible exact Frm.refl _ _ _ | with_reducible refine Frm.drewN ?_ | with_reducible refine Frm.drew ?_ | ((with_reducible refine Frm.setCell' ?_ ?_); · first | (left; simp; done) | (right; simp; done) | (right; simp; omega)) | ((with_reducible refine Frm.alloc' ?_ ?_); · first | exact Nat.le_refl _ | (simp; done) | (simp; omega)))
  clear hW hf0
  have c0 : W.cell? ⟨w.heap.size, 0, none⟩ = some (.string by_) := k0.cell 0
  have d0 : W.cell? ⟨w.heap.size + 1 + 1, 0, none⟩ = some (.int .i64 kind) := k2.cell 0
  have d2 : W.cell? ⟨w.heap.size + 1 + 1, 2, none⟩ = some (.string src) := k2.cell 2
  have d3 : W.cell? ⟨w.heap.size + 1 + 1, 3, none⟩ = some (.string abt) := k2.cell 3
  clear k0 k1 k2
  have HF := Lib.hid hf
  clear hf
  by_cases h4 : kind = 4
  rotate_left
  · have h4b : (kind == 4) = false := by simp [h4]
    go_wp2_with fail
    go_ret
    exact ⟨by simp [h4], HF.out⟩
  subst h4
  by_cases ha : abt.size = 0
  · have hl : abt.toList = [] := by rw [str_nil ha, Lib.toList_data]
    have hl2 : abt.toList.isEmpty = true := by rw [hl]; rfl
    go_wp2_with fail
    go_ret
    exact ⟨by simp [ha], HF.out⟩
  have hl : ¬ abt.toList = [] := lst_not ha
  have hl2 : abt.toList.isEmpty = false := by simp [hl]
  by_cases hs : src = by_
  · subst hs
    go_wp2_with fail
    go_ret
    exact ⟨by simp [ha], HF.out⟩
  have hs1 : ¬ src.toList = by_.toList := fun h => hs (lst_inj h)
  have hs2 : (src.toList == by_.toList) = false := by simp [hs1]
  have hs3 : ¬ by_ = src := fun h => hs h.symm
  go_wp2_with fail
  go_ret
  exact ⟨by simp [hs, hs3, ha, hs1], HF.out⟩
end Go.Proofs.Ythgmdilfmeefiaa

namespace Go.Proofs.Ythgmdilfmeefiaa
set_option linter.all false
set_option linter.unusedSimpArgs false
set_option linter.unusedVariables false
open Go.RowKit

set_option maxRecDepth 100000 in
set_option maxHeartbeats 8000000 in
theorem fits_exercise (pwh : List Spt) (pad : Option Addr) (pb po pcap : Nat) (tp : Int) (wd dr : Int) (r : Rep) (ad : Option Addr) (b o cap : Nat) (w : World) (hp : RwP w pad pb po pwh.length pwh) (hr : RwP w ad b o r.wh.length r.wh) (hok : repB r = true) (hl : 1 ≤ pwh.length) (ho : ∀ i, i < pwh.length → SpOK (spt pwh i)) (ht : TimeOK tp) :
    Calls Try.prog 123 #[.agg #[.slice pad pwh.length pcap, .int .i64 tp], .agg #[.int .i64 wd, .int .i64 dr], .agg (repC r ad cap).toArray] w fun e w' => e = .returned (.bool (decide (r.kind = 3) && meetB r.wh pwh 0 && decide (distZ r.time tp ≤ wd))) ∧ Frm w.heap.size [] w w' := by
  have hf0 := Try.func123
  have x1 := rep_ok hok
  obtain ⟨pn, hpn⟩ : ∃ c, c = pwh.length := ⟨_, rfl⟩
  obtain ⟨v, hv⟩ : ∃ c, c = meetB r.wh pwh 0 := ⟨_, rfl⟩
  obtain ⟨d, hd⟩ : ∃ c, c = distZ r.time tp := ⟨_, rfl⟩
  have hcm : ∀ V, Frm w.heap.size [] w V → Calls Try.prog 87 #[.slice ad r.wh.length cap, .slice pad pn pcap, .int .i64 0] V fun e w' => e = .returned (.bool v) ∧ Frm V.heap.size [] V w' := fun V hV => by
    rw [hv]; exact meet_any ad b o r.wh.length cap r.wh rfl x1.2.1 x1.2.2 pad pb po pn pcap pwh hpn (by rw [hpn]; exact hl) (fun i hi => ho i (by omega)) 0 (by omega) V (hr.frm hV (Nat.le_refl _)) (by rw [hpn]; exact hp.frm hV (Nat.le_refl _))
  have hcd : ∀ V, Calls Try.prog 85 #[.int .i64 r.time, .int .i64 tp] V fun e w' => e = .returned (.int .i64 d) ∧ Frm V.heap.size [] V w' := fun V => by rw [hd]; exact dist_F x1.1 ht V
  rw [← hv, ← hd, ← hpn]
  clear x1 hv hd hpn hp hr hok hl ho ht
  obtain ⟨kind, time, src, abt, wh, souls, trust⟩ := r
  dsimp only at hcm hcd
  obtain ⟨n, hn⟩ : ∃ c, c = wh.length := ⟨_, rfl⟩
  have e1 : repC ⟨kind, time, src, abt, wh, souls, trust⟩ ad cap = [.int .i64 kind, .int .i64 time, .string src, .string abt, .slice ad n cap, .int .i64 souls, .int .i64 trust] := by rw [hn]; rfl
  rw [e1]
  rw [← hn] at hcm
  dsimp only
  clear e1 hn
  have HCM := Lib.hid hcm
  have HCD := Lib.hid hcd
  clear hcd hcm
  go_enter Try.func123, Try.ntmps123
  go_upto_region 1 with fail
  refine namedC ?_; intro W hW
  have k0 : Blk W w.heap.size 126 [.slice pad pn pcap, .int .i64 tp] := by rw [hW]; refine Blk.alloc' ?_; refine Blk.alloc' ?_; exact Blk.new w 126 [.slice pad pn pcap, .int .i64 tp]
  have k1 : Blk W (w.heap.size + 1) 60 [.int .i64 wd, .int .i64 dr] := by rw [hW]; refine Blk.alloc' ?_; exact Blk.new' _ 60 [.int .i64 wd, .int .i64 dr] (by simp)
  have k2 : Blk W (w.heap.size + 1 + 1) 24 [.int .i64 kind, .int .i64 time, .string src, .string abt, .slice ad n cap, .int .i64 souls, .int .i64 trust] := by rw [hW]; exact Blk.new' _ 24 [.int .i64 kind, .int .i64 time, .string src, .string abt, .slice ad n cap, .int .i64 souls, .int .i64 trust] (by simp)
  have hf : Frm w.heap.size [] w W := by rw [hW]; repeat (first | with_reducible exact Frm.refl _ _ _ | with_reducible refine Frm.drewN ?_ | with_reducible refine Frm.drew ?_ | ((with_reducible refine Frm.setCell' ?_ ?_); · first | (left; simp; done) | (right; simp; done) | (right; simp; omega)) | ((with_reducible refine Frm.alloc' ?_ ?_); · first | exact Nat.le_refl _ | (simp; done) | (simp; omega)))
  clear hW hf0
  have hfx : ∀ V, Frm W.heap.size [] W V → V.cell? ⟨w.heap.size, 0, none⟩ = some (.slice pad pn pcap) ∧ V.cell? ⟨w.heap.size, 1, none⟩ = some (.int .i64 tp) ∧ V.cell? ⟨w.heap.size + 1, 0, none⟩ = some (.int .i64 wd) ∧ V.cell? ⟨w.heap.size + 1 + 1, 0, none⟩ = some (.int .i64 kind) ∧ V.cell? ⟨w.heap.size + 1 + 1, 1, none⟩ = some (.int .i64 time) ∧ V.cell? ⟨w.heap.size + 1 + 1, 4, none⟩ = some (.slice ad n cap) := fun V hV => ⟨(hV.blk k0 k0.lt (by simp)).cell 0, (hV.blk k0 k0.lt (by simp)).cell 1, (hV.blk k1 k1.lt (by simp)).cell 0, (hV.blk k2 k2.lt (by simp)).cell 0, (hV.blk k2 k2.lt (by simp)).cell 1, (hV.blk k2 k2.lt (by simp)).cell 4⟩
  clear k0 k1 k2
  have HF := Lib.hid hf
  have HFX := Lib.hid hfx
  clear hfx hf
  by_cases h3 : kind = 3
  rotate_left
  · have h3b : (kind == 3) = false := by simp [h3]
    refine wp_region_leftL (fun V => Frm W.heap.size [] W V) 1000 (by kernel_rfl) ?_
    have hS : Frm W.heap.size [] W W.drew := (Frm.refl _ _ W).drew
    have HS := Lib.hid hS
    clear hS
    first | (refine LeftL.tkG (v := ?_) 0 rfl HS.out ?_ ?_; rotate_left; · intro V hV; obtain ⟨z1, z2, z3, z4, z5, z6⟩ := HFX.out V hV; clear hV; go_simp; rfl) | refine LeftL.tkN 0 rfl HS.out ?_
    (intro K h; go_simp; refine h _ ?_; clear h K)
    first | (refine LeftL.tkG (v := ?_) 1 rfl HS.out ?_ ?_; rotate_left; · intro V hV; obtain ⟨z1, z2, z3, z4, z5, z6⟩ := HFX.out V hV; clear hV; go_simp; rfl) | refine LeftL.tkN 1 rfl HS.out ?_
    (intro K h; go_simp; refine h _ ?_; clear h K)
    first | (refine LeftL.tkG (v := ?_) 2 rfl HS.out ?_ ?_; rotate_left; · intro V hV; obtain ⟨z1, z2, z3, z4, z5, z6⟩ := HFX.out V hV; clear hV; go_simp; rfl) | refine LeftL.tkN 2 rfl HS.out ?_
    (intro K h; go_simp; refine h _ ?_; clear h K)
    first | (refine LeftL.tkG (v := ?_) 3 rfl HS.out ?_ ?_; rotate_left; · intro V hV; obtain ⟨z1, z2, z3, z4, z5, z6⟩ := HFX.out V hV; clear hV; go_simp; rfl) | refine LeftL.tkN 3 rfl HS.out ?_
    (intro K h; go_simp; refine h _ ?_; clear h K)
    first | (refine LeftL.tkG (v := ?_) 4 rfl HS.out ?_ ?_; rotate_left; · intro V hV; obtain ⟨z1, z2, z3, z4, z5, z6⟩ := HFX.out V hV; clear hV; go_simp; rfl) | refine LeftL.tkN 4 rfl HS.out ?_
    (intro K h; go_simp; refine h _ ?_; clear h K)
    first | (refine LeftL.tkG (v := ?_) 5 rfl HS.out ?_ ?_; rotate_left; · intro V hV; obtain ⟨z1, z2, z3, z4, z5, z6⟩ := HFX.out V hV; clear hV; go_simp; rfl) | refine LeftL.tkN 5 rfl HS.out ?_
    (intro K h; go_simp; refine h _ ?_; clear h K)
    first | (refine LeftL.tkG (v := ?_) 6 rfl HS.out ?_ ?_; rotate_left; · intro V hV; obtain ⟨z1, z2, z3, z4, z5, z6⟩ := HFX.out V hV; clear hV; go_simp; rfl) | refine LeftL.tkN 6 rfl HS.out ?_
    (intro K h; go_simp; refine h _ ?_; clear h K)
    first | (refine LeftL.tkG (v := ?_) 7 rfl HS.out ?_ ?_; rotate_left; · intro V hV; obtain ⟨z1, z2, z3, z4, z5, z6⟩ := HFX.out V hV; clear hV; go_simp; rfl) | refine LeftL.tkN 7 rfl HS.out ?_
    (intro K h; go_simp; refine h _ ?_; clear h K)
    first | (refine LeftL.tkG (v := ?_) 8 rfl HS.out ?_ ?_; rotate_left; · intro V hV; obtain ⟨z1, z2, z3, z4, z5, z6⟩ := HFX.out V hV; clear hV; go_simp; rfl) | refine LeftL.tkN 8 rfl HS.out ?_
    (intro K h; go_simp; refine h _ ?_; clear h K)
    first | (refine LeftL.tkG (v := ?_) 9 rfl HS.out ?_ ?_; rotate_left; · intro V hV; obtain ⟨z1, z2, z3, z4, z5, z6⟩ := HFX.out V hV; clear hV; go_simp; rfl) | refine LeftL.tkN 9 rfl HS.out ?_
    (intro K h; go_simp; refine h _ ?_; clear h K)
    first | (refine LeftL.tkG (v := ?_) 10 rfl HS.out ?_ ?_; rotate_left; · intro V hV; obtain ⟨z1, z2, z3, z4, z5, z6⟩ := HFX.out V hV; clear hV; go_simp; rfl) | refine LeftL.tkN 10 rfl HS.out ?_
    (intro K h; go_simp; refine h _ ?_; clear h K)
    first | (refine LeftL.tkG (v := ?_) 11 rfl HS.out ?_ ?_; rotate_left; · intro V hV; obtain ⟨z1, z2, z3, z4, z5, z6⟩ := HFX.out V hV; clear hV; go_simp; rfl) | refine LeftL.tkN 11 rfl HS.out ?_
    (intro K h; go_simp; refine h _ ?_; clear h K)
    first | (refine LeftL.tkG (v := ?_) 12 rfl HS.out ?_ ?_; rotate_left; · intro V hV; obtain ⟨z1, z2, z3, z4, z5, z6⟩ := HFX.out V hV; clear hV; go_simp; rfl) | refine LeftL.tkN 12 rfl HS.out ?_
    (intro K h; go_simp; refine h _ ?_; clear h K)
    first | (refine LeftL.tkG (v := ?_) 13 rfl HS.out ?_ ?_; rotate_left; · intro V hV; obtain ⟨z1, z2, z3, z4, z5, z6⟩ := HFX.out V hV; clear hV; go_simp; rfl) | refine LeftL.tkN 13 rfl HS.out ?_
    (intro K h; go_simp; refine h _ ?_; clear h K)
    first | (refine LeftL.tkG (v := ?_) 14 rfl HS.out ?_ ?_; rotate_left; · intro V hV; obtain ⟨z1, z2, z3, z4, z5, z6⟩ := HFX.out V hV; clear hV; go_simp; rfl) | refine LeftL.tkN 14 rfl HS.out ?_
    (intro K h; go_simp; refine h _ ?_; clear h K)
    first | (refine LeftL.tkG (v := ?_) 15 rfl HS.out ?_ ?_; rotate_left; · intro V hV; obtain ⟨z1, z2, z3, z4, z5, z6⟩ := HFX.out V hV; clear hV; go_simp; rfl) | refine LeftL.tkN 15 rfl HS.out ?_
    (intro K h; go_simp; refine h _ ?_; clear h K)
    first | (refine LeftL.tkG (v := ?_) 16 rfl HS.out ?_ ?_; rotate_left; · intro V hV; obtain ⟨z1, z2, z3, z4, z5, z6⟩ := HFX.out V hV; clear hV; go_simp; rfl) | refine LeftL.tkN 16 rfl HS.out ?_
    (intro K h; go_simp; refine h _ ?_; clear h K)
    first | (refine LeftL.tkG (v := ?_) 17 rfl HS.out ?_ ?_; rotate_left; · intro V hV; obtain ⟨z1, z2, z3, z4, z5, z6⟩ := HFX.out V hV; clear hV; go_simp; rfl) | refine LeftL.tkN 17 rfl HS.out ?_
    (intro K h; go_simp; refine h _ ?_; clear h K)
    first | (refine LeftL.tkG (v := ?_) 18 rfl HS.out ?_ ?_; rotate_left; · intro V hV; obtain ⟨z1, z2, z3, z4, z5, z6⟩ := HFX.out V hV; clear hV; go_simp; rfl) | refine LeftL.tkN 18 rfl HS.out ?_
    (intro K h; go_simp; refine h _ ?_; clear h K)
    first | (refine LeftL.tkG (v := ?_) 19 rfl HS.out ?_ ?_; rotate_left; · intro V hV; obtain ⟨z1, z2, z3, z4, z5, z6⟩ := HFX.out V hV; clear hV; go_simp; rfl) | refine LeftL.tkN 19 rfl HS.out ?_
    (intro K h; go_simp; refine h _ ?_; clear h K)
    refine LeftL.one 20 rfl (by kernel_rfl) ?_
    go_wp2_with fail
    first | refine ⟨fun _ => HS.out, ?_⟩ | refine ⟨HS.out, ?_⟩
    refine LeftL.done (by kernel_rfl) ?_
    have hf := HF.out.call HS.out HF.out.size (by simp)
    clear HF HS HFX
    have HF := Lib.hid hf
    clear hf
    go_wp2_with fail
    go_ret
    exact ⟨by simp [h3], HF.out⟩
  subst h3
  refine wp_region_leftL (fun V => Frm W.heap.size [] W V) 1000 (by kernel_rfl) ?_
  have hS : Frm W.heap.size [] W W.drew := (Frm.refl _ _ W).drew
  have HS := Lib.hid hS
  clear hS
  first | (refine LeftL.tkG (v := ?_) 0 rfl HS.out ?_ ?_; rotate_left; · intro V hV; obtain ⟨z1, z2, z3, z4, z5, z6⟩ := HFX.out V hV; clear hV; go_simp; rfl) | refine LeftL.tkN 0 rfl HS.out ?_
  (intro K h; go_simp; refine h _ ?_; clear h K)
  first | (refine LeftL.tkG (v := ?_) 1 rfl HS.out ?_ ?_; rotate_left; · intro V hV; obtain ⟨z1, z2, z3, z4, z5, z6⟩ := HFX.out V hV; clear hV; go_simp; rfl) | refine LeftL.tkN 1 rfl HS.out ?_
  (intro K h; go_simp; refine h _ ?_; clear h K)
  first | (refine LeftL.tkG (v := ?_) 2 rfl HS.out ?_ ?_; rotate_left; · intro V hV; obtain ⟨z1, z2, z3, z4, z5, z6⟩ := HFX.out V hV; clear hV; go_simp; rfl) | refine LeftL.tkN 2 rfl HS.out ?_
  (intro K h; go_simp; refine h _ ?_; clear h K)
  first | (refine LeftL.tkG (v := ?_) 3 rfl HS.out ?_ ?_; rotate_left; · intro V hV; obtain ⟨z1, z2, z3, z4, z5, z6⟩ := HFX.out V hV; clear hV; go_simp; rfl) | refine LeftL.tkN 3 rfl HS.out ?_
  (intro K h; go_simp; refine h _ ?_; clear h K)
  first | (refine LeftL.tkG (v := ?_) 4 rfl HS.out ?_ ?_; rotate_left; · intro V hV; obtain ⟨z1, z2, z3, z4, z5, z6⟩ := HFX.out V hV; clear hV; go_simp; rfl) | refine LeftL.tkN 4 rfl HS.out ?_
  (intro K h; go_simp; refine h _ ?_; clear h K)
  first | (refine LeftL.tkG (v := ?_) 5 rfl HS.out ?_ ?_; rotate_left; · intro V hV; obtain ⟨z1, z2, z3, z4, z5, z6⟩ := HFX.out V hV; clear hV; go_simp; rfl) | refine LeftL.tkN 5 rfl HS.out ?_
  (intro K h; go_simp; refine h _ ?_; clear h K)
  first | (refine LeftL.tkG (v := ?_) 6 rfl HS.out ?_ ?_; rotate_left; · intro V hV; obtain ⟨z1, z2, z3, z4, z5, z6⟩ := HFX.out V hV; clear hV; go_simp; rfl) | refine LeftL.tkN 6 rfl HS.out ?_
  (intro K h; go_simp; refine h _ ?_; clear h K)
  first | (refine LeftL.tkG (v := ?_) 7 rfl HS.out ?_ ?_; rotate_left; · intro V hV; obtain ⟨z1, z2, z3, z4, z5, z6⟩ := HFX.out V hV; clear hV; go_simp; rfl) | refine LeftL.tkN 7 rfl HS.out ?_
  (intro K h; go_simp; refine h _ ?_; clear h K)
  refine LeftL.one 8 rfl (by kernel_rfl) ?_
  go_wp2_with fail
  refine (HCM.out _ (HF.out.call HS.out HF.out.size (by simp))).mono ?_; rintro e w1 ⟨rfl, hf1⟩
  have hS1 := HS.out.call hf1 HS.out.size (by simp)
  clear hf1 HS
  have HS := Lib.hid hS1
  clear hS1
  go_wp2_with fail
  first | refine ⟨fun _ => HS.out, ?_⟩ | refine ⟨HS.out, ?_⟩
  refine LeftL.one 9 rfl (by kernel_rfl) ?_
  go_wp2_with fail
  first | refine ⟨fun _ => HS.out, ?_⟩ | refine ⟨HS.out, ?_⟩
  cases v
  · first | (refine LeftL.tkG (v := ?_) 10 rfl HS.out ?_ ?_; rotate_left; · intro V hV; obtain ⟨z1, z2, z3, z4, z5, z6⟩ := HFX.out V hV; clear hV; go_simp; rfl) | refine LeftL.tkN 10 rfl HS.out ?_
    (intro K h; go_simp; refine h _ ?_; clear h K)
    first | (refine LeftL.tkG (v := ?_) 11 rfl HS.out ?_ ?_; rotate_left; · intro V hV; obtain ⟨z1, z2, z3, z4, z5, z6⟩ := HFX.out V hV; clear hV; go_simp; rfl) | refine LeftL.tkN 11 rfl HS.out ?_
    (intro K h; go_simp; refine h _ ?_; clear h K)
    first | (refine LeftL.tkG (v := ?_) 12 rfl HS.out ?_ ?_; rotate_left; · intro V hV; obtain ⟨z1, z2, z3, z4, z5, z6⟩ := HFX.out V hV; clear hV; go_simp; rfl) | refine LeftL.tkN 12 rfl HS.out ?_
    (intro K h; go_simp; refine h _ ?_; clear h K)
    first | (refine LeftL.tkG (v := ?_) 13 rfl HS.out ?_ ?_; rotate_left; · intro V hV; obtain ⟨z1, z2, z3, z4, z5, z6⟩ := HFX.out V hV; clear hV; go_simp; rfl) | refine LeftL.tkN 13 rfl HS.out ?_
    (intro K h; go_simp; refine h _ ?_; clear h K)
    first | (refine LeftL.tkG (v := ?_) 14 rfl HS.out ?_ ?_; rotate_left; · intro V hV; obtain ⟨z1, z2, z3, z4, z5, z6⟩ := HFX.out V hV; clear hV; go_simp; rfl) | refine LeftL.tkN 14 rfl HS.out ?_
    (intro K h; go_simp; refine h _ ?_; clear h K)
    first | (refine LeftL.tkG (v := ?_) 15 rfl HS.out ?_ ?_; rotate_left; · intro V hV; obtain ⟨z1, z2, z3, z4, z5, z6⟩ := HFX.out V hV; clear hV; go_simp; rfl) | refine LeftL.tkN 15 rfl HS.out ?_
    (intro K h; go_simp; refine h _ ?_; clear h K)
    first | (refine LeftL.tkG (v := ?_) 16 rfl HS.out ?_ ?_; rotate_left; · intro V hV; obtain ⟨z1, z2, z3, z4, z5, z6⟩ := HFX.out V hV; clear hV; go_simp; rfl) | refine LeftL.tkN 16 rfl HS.out ?_
    (intro K h; go_simp; refine h _ ?_; clear h K)
    first | (refine LeftL.tkG (v := ?_) 17 rfl HS.out ?_ ?_; rotate_left; · intro V hV; obtain ⟨z1, z2, z3, z4, z5, z6⟩ := HFX.out V hV; clear hV; go_simp; rfl) | refine LeftL.tkN 17 rfl HS.out ?_
    (intro K h; go_simp; refine h _ ?_; clear h K)
    first | (refine LeftL.tkG (v := ?_) 18 rfl HS.out ?_ ?_; rotate_left; · intro V hV; obtain ⟨z1, z2, z3, z4, z5, z6⟩ := HFX.out V hV; clear hV; go_simp; rfl) | refine LeftL.tkN 18 rfl HS.out ?_
    (intro K h; go_simp; refine h _ ?_; clear h K)
    first | (refine LeftL.tkG (v := ?_) 19 rfl HS.out ?_ ?_; rotate_left; · intro V hV; obtain ⟨z1, z2, z3, z4, z5, z6⟩ := HFX.out V hV; clear hV; go_simp; rfl) | refine LeftL.tkN 19 rfl HS.out ?_
    (intro K h; go_simp; refine h _ ?_; clear h K)
    refine LeftL.one 20 rfl (by kernel_rfl) ?_
    go_wp2_with fail
    first | refine ⟨fun _ => HS.out, ?_⟩ | refine ⟨HS.out, ?_⟩
    refine LeftL.done (by kernel_rfl) ?_
    have hf := HF.out.call HS.out HF.out.size (by simp)
    clear HF HS HFX
    have HF := Lib.hid hf
    clear hf
    go_wp2_with fail
    go_ret
    exact ⟨by simp, HF.out⟩
  first | (refine LeftL.tkG (v := ?_) 10 rfl HS.out ?_ ?_; rotate_left; · intro V hV; obtain ⟨z1, z2, z3, z4, z5, z6⟩ := HFX.out V hV; clear hV; go_simp; rfl) | refine LeftL.tkN 10 rfl HS.out ?_
  (intro K h; go_simp; refine h _ ?_; clear h K)
  first | (refine LeftL.tkG (v := ?_) 11 rfl HS.out ?_ ?_; rotate_left; · intro V hV; obtain ⟨z1, z2, z3, z4, z5, z6⟩ := HFX.out V hV; clear hV; go_simp; rfl) | refine LeftL.tkN 11 rfl HS.out ?_
  (intro K h; go_simp; refine h _ ?_; clear h K)
  first | (refine LeftL.tkG (v := ?_) 12 rfl HS.out ?_ ?_; rotate_left; · intro V hV; obtain ⟨z1, z2, z3, z4, z5, z6⟩ := HFX.out V hV; clear hV; go_simp; rfl) | refine LeftL.tkN 12 rfl HS.out ?_
  (intro K h; go_simp; refine h _ ?_; clear h K)
  first | (refine LeftL.tkG (v := ?_) 13 rfl HS.out ?_ ?_; rotate_left; · intro V hV; obtain ⟨z1, z2, z3, z4, z5, z6⟩ := HFX.out V hV; clear hV; go_simp; rfl) | refine LeftL.tkN 13 rfl HS.out ?_
  (intro K h; go_simp; refine h _ ?_; clear h K)
  first | (refine LeftL.tkG (v := ?_) 14 rfl HS.out ?_ ?_; rotate_left; · intro V hV; obtain ⟨z1, z2, z3, z4, z5, z6⟩ := HFX.out V hV; clear hV; go_simp; rfl) | refine LeftL.tkN 14 rfl HS.out ?_
  (intro K h; go_simp; refine h _ ?_; clear h K)
  first | (refine LeftL.tkG (v := ?_) 16 rfl HS.out ?_ ?_; rotate_left; · intro V hV; obtain ⟨z1, z2, z3, z4, z5, z6⟩ := HFX.out V hV; clear hV; go_simp; rfl) | refine LeftL.tkN 16 rfl HS.out ?_
  (intro K h; go_simp; refine h _ ?_; clear h K)
  first | (refine LeftL.tkG (v := ?_) 17 rfl HS.out ?_ ?_; rotate_left; · intro V hV; obtain ⟨z1, z2, z3, z4, z5, z6⟩ := HFX.out V hV; clear hV; go_simp; rfl) | refine LeftL.tkN 17 rfl HS.out ?_
  (intro K h; go_simp; refine h _ ?_; clear h K)
  refine LeftL.one 15 rfl (by kernel_rfl) ?_
  go_wp2_with fail
  refine (HCD.out _).mono ?_; rintro e w1 ⟨rfl, hf1⟩
  have hS1 := HS.out.call hf1 HS.out.size (by simp)
  clear hf1 HS
  have HS := Lib.hid hS1
  clear hS1
  go_wp2_with fail
  first | refine ⟨fun _ => HS.out, ?_⟩ | refine ⟨HS.out, ?_⟩
  refine LeftL.one 18 rfl (by kernel_rfl) ?_
  go_wp2_with fail
  first | refine ⟨fun _ => HS.out, ?_⟩ | refine ⟨HS.out, ?_⟩
  refine LeftL.one 19 rfl (by kernel_rfl) ?_
  go_wp2_with fail
  first | refine ⟨fun _ => HS.out, ?_⟩ | refine ⟨HS.out, ?_⟩
  refine LeftL.one 20 rfl (by kernel_rfl) ?_
  go_wp2_with fail
  first | refine ⟨fun _ => HS.out, ?_⟩ | refine ⟨HS.out, ?_⟩
  refine LeftL.done (by kernel_rfl) ?_
  have hf := HF.out.call HS.out HF.out.size (by simp)
  clear HF HS HFX
  have HF := Lib.hid hf
  clear hf
  go_wp2_with fail
  go_ret
  exact ⟨by simp, HF.out⟩
theorem nil99 (u : Value) (w : World) : (execOp (fun _ => .func (.method "cresset/incident.fits") #[.iface 99 u] #[]) { dst := some 51, op := .nilCheck (.tmp 50), type := 0, pos := "", after := #[], guard := none }).run Try.prog w = .ok (.value (.func (.method "cresset/incident.fits") #[.iface 99 u] #[])) w := by kernel_rfl
theorem meth99 (u : Value) (w : World) : (method 261 99 u "cresset/incident.fits").run Try.prog w = .ok (119, u) w := by kernel_rfl
theorem nil122 (u : Value) (w : World) : (execOp (fun _ => .func (.method "cresset/incident.fits") #[.iface 122 u] #[]) { dst := some 51, op := .nilCheck (.tmp 50), type := 0, pos := "", after := #[], guard := none }).run Try.prog w = .ok (.value (.func (.method "cresset/incident.fits") #[.iface 122 u] #[])) w := by kernel_rfl
theorem meth122 (u : Value) (w : World) : (method 261 122 u "cresset/incident.fits").run Try.prog w = .ok (120, u) w := by kernel_rfl
theorem nil123 (u : Value) (w : World) : (execOp (fun _ => .func (.method "cresset/incident.fits") #[.iface 123 u] #[]) { dst := some 51, op := .nilCheck (.tmp 50), type := 0, pos := "", after := #[], guard := none }).run Try.prog w = .ok (.value (.func (.method "cresset/incident.fits") #[.iface 123 u] #[])) w := by kernel_rfl
theorem meth123 (u : Value) (w : World) : (method 261 123 u "cresset/incident.fits").run Try.prog w = .ok (121, u) w := by kernel_rfl
theorem nil124 (u : Value) (w : World) : (execOp (fun _ => .func (.method "cresset/incident.fits") #[.iface 124 u] #[]) { dst := some 51, op := .nilCheck (.tmp 50), type := 0, pos := "", after := #[], guard := none }).run Try.prog w = .ok (.value (.func (.method "cresset/incident.fits") #[.iface 124 u] #[])) w := by kernel_rfl
theorem meth124 (u : Value) (w : World) : (method 261 124 u "cresset/incident.fits").run Try.prog w = .ok (122, u) w := by kernel_rfl
theorem nil126 (u : Value) (w : World) : (execOp (fun _ => .func (.method "cresset/incident.fits") #[.iface 126 u] #[]) { dst := some 51, op := .nilCheck (.tmp 50), type := 0, pos := "", after := #[], guard := none }).run Try.prog w = .ok (.value (.func (.method "cresset/incident.fits") #[.iface 126 u] #[])) w := by kernel_rfl
theorem meth126 (u : Value) (w : World) : (method 261 126 u "cresset/incident.fits").run Try.prog w = .ok (123, u) w := by kernel_rfl
/-- What is made of a proof that is right, as a call through the interface sees it. -/
structure Made_ (s : BS) (p : Prf) (r : Rep) (C : List Value) (w : World) (v : Value) (T : TypeId) (u : Value) (N : FuncId) : Prop where
  val : v = .iface T u
  ent : Enters N
  nil : ∀ w, (execOp (fun _ => .func (.method "cresset/incident.fits") #[.iface T u] #[]) { dst := some 51, op := .nilCheck (.tmp 50), type := 0, pos := "", after := #[], guard := none }).run Try.prog w = .ok (.value (.func (.method "cresset/incident.fits") #[.iface T u] #[])) w
  meth : ∀ w, (method 261 T u "cresset/incident.fits").run Try.prog w = .ok (N, u) w
  yes : p.kind = 1 → ∀ w, (Instr.typeAssert (.iface T u) 96 99 true).run Try.prog w = .ok (.tuple #[u, .bool true]) w
  no : p.kind ≠ 1 → ∀ w, (Instr.typeAssert (.iface T u) 96 99 true).run Try.prog w = .ok (.tuple #[.agg #[.int .i64 0], .bool false]) w
  call : ∀ V, Frm w.heap.size [] w V → Calls Try.prog N #[u, .agg #[.int .i64 s.window, .int .i64 s.drift], .agg C.toArray] V fun e w' => e = .returned (.bool (fitsB s p r)) ∧ Frm V.heap.size [] V w'
theorem made_all (s : BS) (p : Prf) (r : Rep) (hok : repB r = true) (hright : rightB p r = true) (pad : Option Addr) (pb po pcap : Nat) (ad : Option Addr) (b o cap : Nat) (w : World) (hp : RwP w pad pb po p.wh.length p.wh) (hr : RwP w ad b o r.wh.length r.wh) :
    ∃ T u N, Made_ s p r (repC r ad cap) w (madeV p pad pcap) T u N := by
  have has : repB (asR p) = true := by
    rw [right_eq] at hright
    simp only [Bool.and_eq_true] at hright
    exact hright.1.1.2
  have x1 := rep_ok has
  have hct := right_count hright
  by_cases h1 : p.kind = 1
  · refine ⟨99, .agg #[.int .i64 p.count], 119, by unfold madeV; rw [if_pos h1], enters Try.func119 (by kernel_rfl) (by kernel_rfl), nil99 _, meth99 _, fun _ w => assert99_yes w _, fun h => absurd h1 h, fun V hV => ?_⟩
    have e : fitsB s p r = foundB p.count r := by unfold fitsB; rw [if_pos h1]
    rw [e]
    exact fits_found p.count s.window s.drift r ad cap V hct.1 (rep_souls hok)
  by_cases h2 : p.kind = 2
  · refine ⟨122, .agg #[.string p.by_], 120, by unfold madeV; rw [if_neg h1, if_pos h2], enters Try.func120 (by kernel_rfl) (by kernel_rfl), nil122 _, meth122 _, fun h => absurd h h1, fun _ w => assert99_no w 122 _ (by decide), fun V hV => ?_⟩
    have e : fitsB s p r = (decide (r.kind = 1) && decide (r.abt = p.by_)) := by unfold fitsB; rw [if_neg h1, if_pos h2]
    rw [e]
    exact fits_owner p.by_ s.window s.drift r ad cap V
  by_cases h3 : p.kind = 3
  · refine ⟨123, .agg #[.string p.by_], 121, by unfold madeV; rw [if_neg h1, if_neg h2, if_pos h3], enters Try.func121 (by kernel_rfl) (by kernel_rfl), nil123 _, meth123 _, fun h => absurd h h1, fun _ w => assert99_no w 123 _ (by decide), fun V hV => ?_⟩
    have e : fitsB s p r = (decide (r.kind = 4) && decide (p.by_ ≠ r.src) && decide (r.abt.size ≠ 0)) := by unfold fitsB; rw [if_neg h1, if_neg h2, if_pos h3]
    rw [e]
    exact fits_arrived p.by_ s.window s.drift r ad cap V
  by_cases h4 : p.kind = 4
  · refine ⟨124, .agg #[.string p.by_], 122, by unfold madeV; rw [if_neg h1, if_neg h2, if_neg h3, if_pos h4], enters Try.func122 (by kernel_rfl) (by kernel_rfl), nil124 _, meth124 _, fun h => absurd h h1, fun _ w => assert99_no w 124 _ (by decide), fun V hV => ?_⟩
    have e : fitsB s p r = ((decide (r.kind = 2) || decide (r.kind = 3)) && decide (p.by_ = r.src)) := by unfold fitsB; rw [if_neg h1, if_neg h2, if_neg h3, if_pos h4]
    rw [e]
    exact fits_withdrawn p.by_ s.window s.drift r ad cap V
  refine ⟨126, .agg #[.slice pad p.wh.length pcap, .int .i64 p.time], 123, by unfold madeV; rw [if_neg h1, if_neg h2, if_neg h3, if_neg h4], enters Try.func123 (by kernel_rfl) (by kernel_rfl), nil126 _, meth126 _, fun h => absurd h h1, fun _ w => assert99_no w 126 _ (by decide), fun V hV => ?_⟩
  have e : fitsB s p r = (decide (r.kind = 3) && meetB r.wh p.wh 0 && decide (distZ r.time p.time ≤ s.window)) := by unfold fitsB; rw [if_neg h1, if_neg h2, if_neg h3, if_neg h4]
  rw [e]
  exact fits_exercise p.wh pad pb po pcap p.time s.window s.drift r ad b o cap V (hp.frm hV (Nat.le_refl _)) (hr.frm hV (Nat.le_refl _)) hok x1.2.1 x1.2.2 x1.1
end Go.Proofs.Ythgmdilfmeefiaa
