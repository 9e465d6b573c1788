/-
  Texts J36, J37 of this claim, one behind the other.
-/
import Derived.Test.YthgmdilfmeefiaaBD
namespace Go.Proofs.Ythgmdilfmeefiaa
set_option linter.all false
set_option linter.unusedSimpArgs false
set_option linter.unusedVariables false
open Go.RowKit

def callR (t x y : Int) (by_ : ByteArray) : Rep := ⟨2, t, by_, ⟨#[]⟩, [(x, y)], -1, 0⟩
theorem one_rw {w : World} {b : Nat} {x y : Int} (h : Blk w b 71 [.int .i64 x, .int .i64 y]) : RwP w (some ⟨b, 0, none⟩) b 0 1 [(x, y)] := by
  refine ⟨fun _ => rfl, by decide, fun i hi k v hv => ?_⟩
  obtain rfl : i = 0 := by omega
  simp only [Nat.zero_mul, Nat.zero_add]
  rw [h.cell k]
  exact hv
set_option maxHeartbeats 4000000 in
theorem call_any (t x y : Int) (by_ : ByteArray) (w : World) :
    Calls Try.prog 25 #[.int .i64 t, .int .i64 x, .int .i64 y, .string by_] w fun e w' => ∃ b, e = .returned (.agg (repC (callR t x y by_) (some ⟨b, 0, none⟩) 1).toArray) ∧ RwP w' (some ⟨b, 0, none⟩) b 0 1 [(x, y)] ∧ w.heap.size ≤ b ∧ b < w'.heap.size ∧ Frm w.heap.size [] w w' := by
  have hf0 := Try.func25
  go_enter Try.func25, Try.ntmps25
  go_upto_region 1 with fail
  refine namedC ?_; intro W hW
  have k0 : Blk W w.heap.size 24 [.int .i64 0, .int .i64 0, .string ⟨#[]⟩, .string ⟨#[]⟩, .slice none 0 0, .int .i64 0, .int .i64 0] := by rw [hW]; exact Blk.new w 24 _
  have hf : Frm w.heap.size [] w W := by rw [hW]; repeat (first | with_reducible exact Frm.refl _ _ _ | with_reducible refine Frm.drewN ?_ | with_reducible refine Frm.drew ?_ | ((with_reducible refine Frm.setCell' ?_ ?_); · first | (left; simp; done) | (right; simp; done) | (right; simp; omega)) | ((with_reducible refine Frm.alloc' ?_ ?_); · first | exact Nat.le_refl _ | (simp; done) | (simp; omega)))
  clear hW hf0
  have HF := Lib.hid hf
  have K0 := Lib.hid k0
  clear k0 hf
  go_wp2_with (with_reducible refine atStore 24 rfl ?_; refine stop_ ?_)
  refine go_on ?_
  have k0 := K0.out.alloc (.cells [Value.int .i64 x, .int .i64 y].toArray 71)
  have hf := HF.out.alloc HF.out.size (.cells [Value.int .i64 x, .int .i64 y].toArray 71)
  have k1 := Blk.new W 71 [.int .i64 x, .int .i64 y]
  have hlt := K0.out.lt
  refine wpList_storeB (P := Try.prog) (cs := repC (callR t x y by_) (some ⟨W.heap.size, 0, none⟩) 1) rfl rfl k0 rfl rfl rfl info24 (by simp [repC, callR, Value.oneCell']) ?_
  have k0 := k0.row (repC (callR t x y by_) (some ⟨W.heap.size, 0, none⟩) 1)
  have k1 := k1.row_other (g := w.heap.size) (repC (callR t x y by_) (some ⟨W.heap.size, 0, none⟩) 1).toArray (by omega)
  have hf := hf.setRow (g := w.heap.size) (.inr (Nat.le_refl _)) (repC (callR t x y by_) (some ⟨W.heap.size, 0, none⟩) 1).toArray
  obtain ⟨b, hb⟩ : ∃ b, b = W.heap.size := ⟨_, rfl⟩
  rw [← hb] at k0 k1 hf ⊢
  rw [← hb] at hlt
  generalize World.setRow _ w.heap.size _ = V at k0 k1 hf ⊢
  clear hb HF K0
  dsimp only [Act.put]
  have HF := Lib.hid hf
  have K0 := Lib.hid k0
  have K1 := Lib.hid k1
  have HLT := Lib.hid hlt
  clear hlt k1 k0 hf
  go_wp2_with fail
  refine bodyPost_ret (results_c Try.results25 K0.out rfl Try.underlying24 rfl info24) rfl ?_
  exact ⟨b, rfl, one_rw K1.out, Nat.le_of_lt HLT.out, K1.out.lt, HF.out⟩
/-- A book of ours, made since the world w. -/
structure Live (w V : World) (k : Nat) (s : BS) (m : Mem) : Prop where
  at_ : BookAt V k s m
  own : ∀ b ∈ m.own k s, w.heap.size ≤ b
  frm : Frm w.heap.size [] w V
theorem Live.turn {w V V' : World} {k : Nat} {s s' : BS} {m m' : Mem} (h : Live w V k s m) (hb : BookAt V' k s' m') (ht : Turn k V V' s s' m m') : Live w V' k s' m' :=
  ⟨hb, fun b hb => (ht.own b hb).elim (h.own b) (fun e => Nat.le_trans h.frm.size e), h.frm.call ht.frm h.frm.size (fun x hx hm => absurd (h.own x hm) (by omega))⟩
theorem Live.still {w V V' : World} {k : Nat} {s : BS} {m : Mem} (h : Live w V k s m) (hf : Frm V.heap.size [] V V') : Live w V' k s m :=
  ⟨h.at_.still hf, h.own, h.frm.call hf h.frm.size (by simp)⟩
theorem Turn.blk {w w' : World} {k : Nat} {s s' : BS} {m m' : Mem} (ht : Turn k w w' s s' m m') {b T : Nat} {cs : List Value} (h : Blk w b T cs) (hn : b ∉ m.own k s) : Blk w' b T cs ∧ b ∉ m'.own k s' :=
  ⟨ht.frm.blk h h.lt hn, fun hm => (ht.own b hm).elim hn (fun e => by have := h.lt; omega)⟩
theorem Turn.rw {w w' : World} {k : Nat} {s s' : BS} {m m' : Mem} (ht : Turn k w w' s s' m m') {size : Nat} {ad : Option Addr} {b off n : Nat} {f : Nat → List Value} (h : Rw w size ad b off n f) (hn : b ∉ m.own k s) (hl : b < w.heap.size) : Rw w' size ad b off n f ∧ b ∉ m'.own k s' ∧ b < w'.heap.size :=
  ⟨h.frmS ht.frm hn, fun hm => (ht.own b hm).elim hn (fun e => by omega), Nat.lt_of_lt_of_le hl ht.frm.size⟩
theorem Live.new {w V : World} {k : Nat} {s : BS} {m : Mem} (h : Live w V k s m) {b : Nat} (hb : V.heap.size ≤ b) : b ∉ m.own k s := fun hm => by
  have := h.at_.own_lt b hm
  omega
def sX : ByteArray := ⟨#[120]⟩
def sY : ByteArray := ⟨#[121]⟩
def sZ : ByteArray := ⟨#[122]⟩
def exR1 : Rep := ⟨3, 0, sX, ⟨#[]⟩, [(0, 0)], -1, 0⟩
def exR2 : Rep := callR 60 30 30 sY
def exR3 : Rep := ⟨1, 90, ⟨#[115, 97, 116]⟩, ⟨#[98, 49]⟩, [(5000, 0)], -1, 0⟩
def exP1 : Prf := ⟨4, 1, 70, sY, [(0, 0)], 0⟩
def exP2 : Prf := ⟨1, 0, 80, sZ, [(0, 0)], 1⟩
def exS0 : BS := emptyS 3600 3600
def exS1 : BS := (tookS exS0 exR1).1
def exS2 : BS := (tookS exS1 exR2).1
def exS3 : BS := (tookS exS2 exR3).1
def exS4 : BS := (closeS exS3 0).1
def exS5 : BS := (proveS exS4 exP1).1
def exS6 : BS := (proveS exS5 exP2).1
theorem exA1 : cmpA (callR 0 0 0 sX) (callR 60 30 60 sY) 3600 3600 = (5, 0) := by kernel_rfl
theorem exA2 : cmpA (callR 0 0 0 sX) (callR 60 0 61 sY) 3600 3600 = (4, 0) := by kernel_rfl
theorem exA3 : rulesB 3600 3600 = true := by kernel_rfl
theorem exT1 : (tookS exS0 exR1).2 = (0, 4, 0) := by kernel_rfl
theorem exT2 : (tookS exS1 exR2).2 = (0, 2, 0) := by kernel_rfl
theorem exT3 : (tookS exS2 exR3).2 = (1, 4, 0) := by kernel_rfl
theorem exC1 : (closeS exS3 0).2 = (0, 9) := by kernel_rfl
theorem exP1_ : (proveS exS4 exP1).2 = 0 := by kernel_rfl
theorem exP2_ : (proveS exS5 exP2).2 = 0 := by kernel_rfl
theorem exC2 : (closeS exS6 0).2 = (-1, 0) := by kernel_rfl
end Go.Proofs.Ythgmdilfmeefiaa

namespace Go.Proofs.Ythgmdilfmeefiaa
set_option linter.all false
set_option linter.unusedSimpArgs false
set_option linter.unusedVariables false
open Go.RowKit

theorem take_live {w V : World} {k : Nat} {s : BS} {m : Mem} (h : Live w V k s m) (r : Rep) (ad : Option Addr) (b o cap : Nat) (hr : RwP V ad b o r.wh.length r.wh) (hbo : b ∉ m.own k s) :
    Calls Try.prog 26 #[.pointer (some ⟨k, 0, none⟩), .agg (repC r ad cap).toArray] V fun e V' => e = .returned (.tuple #[.int .i64 (tookS s r).2.1, .int .i64 (tookS s r).2.2.1, .int .i64 (tookS s r).2.2.2]) ∧ ∃ m', Live w V' k (tookS s r).1 m' ∧ Turn k V V' s (tookS s r).1 m m' :=
  (take_any h.at_ r ad b o cap hr hbo).mono fun e V' ⟨h1, m', h2, h3⟩ => ⟨h1, m', h.turn h2 h3, h3⟩
theorem close_live {w V : World} {k : Nat} {s : BS} {m : Mem} (h : Live w V k s m) (i : Int) :
    Calls Try.prog 27 #[.pointer (some ⟨k, 0, none⟩), .int .i64 i] V fun e V' => e = .returned (.tuple #[.int .i64 (closeS s i).2.1, .int .i64 (closeS s i).2.2]) ∧ ∃ m', Live w V' k (closeS s i).1 m' ∧ Turn k V V' s (closeS s i).1 m m' :=
  (close_call h.at_ i).mono fun e V' ⟨h1, m', h2, h3⟩ => ⟨h1, m', h.turn h2 h3, h3⟩
theorem prove_live {w V : World} {k : Nat} {s : BS} {m : Mem} (h : Live w V k s m) (p : Prf) (pad : Option Addr) (pb po pcap : Nat) (hp : RwP V pad pb po p.wh.length p.wh) :
    Calls Try.prog 28 #[.pointer (some ⟨k, 0, none⟩), .agg (prfA p pad pcap).toArray] V fun e V' => e = .returned (.int .i64 (proveS s p).2) ∧ ∃ m', Live w V' k (proveS s p).1 m' ∧ Turn k V V' s (proveS s p).1 m m' :=
  (prove_call h.at_ p pad pb po pcap hp).mono fun e V' ⟨h1, m', h2, h3⟩ => ⟨h1, m', h.turn h2 h3, h3⟩
theorem new_live (wd dr : Int) (hr : rulesB wd dr = true) {w V : World} (hf : Frm w.heap.size [] w V) :
    Calls Try.prog 14 #[.int .i64 wd, .int .i64 dr] V fun e V' => ∃ k, e = .returned (.tuple #[.pointer (some ⟨k, 0, none⟩), .int .i64 0]) ∧ Live w V' k (emptyS wd dr) emptyM ∧ Frm V.heap.size [] V V' ∧ V.heap.size ≤ k := by
  refine (new_any wd dr V).mono ?_
  rintro e V' ⟨h1, h2⟩
  rw [if_pos hr] at h1
  obtain ⟨k, h3, h4, h5⟩ := h1
  refine ⟨k, h3, ⟨h4, fun b hb => ?_, hf.call h2 hf.size (by simp)⟩, h2, h5⟩
  have := hf.size
  rcases own_iff.1 hb with rfl | e | e | e | ⟨i, hi, _⟩
  · omega
  · simp [emptyM] at e
  · simp [emptyM] at e
  · simp [emptyM] at e
  · simp [emptyS] at hi
theorem ex_cmp1 {V : World} {a b : Nat} (h1 : RwP V (some ⟨a, 0, none⟩) a 0 1 [(0, 0)]) (h2 : RwP V (some ⟨b, 0, none⟩) b 0 1 [(30, 60)]) :
    Calls Try.prog 11 #[.agg (repC (callR 0 0 0 sX) (some ⟨a, 0, none⟩) 1).toArray, .agg (repC (callR 60 30 60 sY) (some ⟨b, 0, none⟩) 1).toArray, .int .i64 3600, .int .i64 3600] V fun e w' => e = .returned (.tuple #[.int .i64 5, .int .i64 0]) ∧ Frm V.heap.size [] V w' :=
  (compare_any 3600 3600 (callR 0 0 0 sX) (callR 60 30 60 sY) (some ⟨a, 0, none⟩) (some ⟨b, 0, none⟩) 1 1 V a 0 b 0 h1 h2).mono fun e w' ⟨e1, e2⟩ => ⟨by rw [e1, exA1], e2⟩
theorem ex_cmp2 {V : World} {a b : Nat} (h1 : RwP V (some ⟨a, 0, none⟩) a 0 1 [(0, 0)]) (h2 : RwP V (some ⟨b, 0, none⟩) b 0 1 [(0, 61)]) :
    Calls Try.prog 11 #[.agg (repC (callR 0 0 0 sX) (some ⟨a, 0, none⟩) 1).toArray, .agg (repC (callR 60 0 61 sY) (some ⟨b, 0, none⟩) 1).toArray, .int .i64 3600, .int .i64 3600] V fun e w' => e = .returned (.tuple #[.int .i64 4, .int .i64 0]) ∧ Frm V.heap.size [] V w' :=
  (compare_any 3600 3600 (callR 0 0 0 sX) (callR 60 0 61 sY) (some ⟨a, 0, none⟩) (some ⟨b, 0, none⟩) 1 1 V a 0 b 0 h1 h2).mono fun e w' ⟨e1, e2⟩ => ⟨by rw [e1, exA2], e2⟩
theorem ex_take1 {w V : World} {k : Nat} {m : Mem} (h : Live w V k exS0 m) {b : Nat} (hr : RwP V (some ⟨b, 0, none⟩) b 0 1 [(0, 0)]) (hbo : b ∉ m.own k exS0) :
    Calls Try.prog 26 #[.pointer (some ⟨k, 0, none⟩), .agg (repC exR1 (some ⟨b, 0, none⟩) 1).toArray] V fun e V' => e = .returned (.tuple #[.int .i64 0, .int .i64 4, .int .i64 0]) ∧ ∃ m', Live w V' k exS1 m' ∧ Turn k V V' exS0 exS1 m m' :=
  (take_live h exR1 (some ⟨b, 0, none⟩) b 0 1 hr hbo).mono fun e V' ⟨h1, h2⟩ => ⟨by rw [h1, exT1], h2⟩
theorem ex_take2 {w V : World} {k : Nat} {m : Mem} (h : Live w V k exS1 m) {b : Nat} (hr : RwP V (some ⟨b, 0, none⟩) b 0 1 [(30, 30)]) (hbo : b ∉ m.own k exS1) :
    Calls Try.prog 26 #[.pointer (some ⟨k, 0, none⟩), .agg (repC exR2 (some ⟨b, 0, none⟩) 1).toArray] V fun e V' => e = .returned (.tuple #[.int .i64 0, .int .i64 2, .int .i64 0]) ∧ ∃ m', Live w V' k exS2 m' ∧ Turn k V V' exS1 exS2 m m' :=
  (take_live h exR2 (some ⟨b, 0, none⟩) b 0 1 hr hbo).mono fun e V' ⟨h1, h2⟩ => ⟨by rw [h1, exT2], h2⟩
theorem ex_take3 {w V : World} {k : Nat} {m : Mem} (h : Live w V k exS2 m) {b : Nat} (hr : RwP V (some ⟨b, 0, none⟩) b 0 1 [(5000, 0)]) (hbo : b ∉ m.own k exS2) :
    Calls Try.prog 26 #[.pointer (some ⟨k, 0, none⟩), .agg (repC exR3 (some ⟨b, 0, none⟩) 1).toArray] V fun e V' => e = .returned (.tuple #[.int .i64 1, .int .i64 4, .int .i64 0]) ∧ ∃ m', Live w V' k exS3 m' ∧ Turn k V V' exS2 exS3 m m' :=
  (take_live h exR3 (some ⟨b, 0, none⟩) b 0 1 hr hbo).mono fun e V' ⟨h1, h2⟩ => ⟨by rw [h1, exT3], h2⟩
theorem ex_close1 {w V : World} {k : Nat} {m : Mem} (h : Live w V k exS3 m) :
    Calls Try.prog 27 #[.pointer (some ⟨k, 0, none⟩), .int .i64 0] V fun e V' => e = .returned (.tuple #[.int .i64 (0), .int .i64 9]) ∧ ∃ m', Live w V' k exS4 m' ∧ Turn k V V' exS3 exS4 m m' :=
  (close_live h 0).mono fun e V' ⟨h1, h2⟩ => ⟨by rw [h1, exC1], h2⟩
theorem ex_close2 {w V : World} {k : Nat} {m : Mem} (h : Live w V k exS6 m) :
    Calls Try.prog 27 #[.pointer (some ⟨k, 0, none⟩), .int .i64 0] V fun e V' => e = .returned (.tuple #[.int .i64 (-1), .int .i64 0]) ∧ ∃ m', Live w V' k (closeS exS6 0).1 m' ∧ Turn k V V' exS6 (closeS exS6 0).1 m m' :=
  (close_live h 0).mono fun e V' ⟨h1, h2⟩ => ⟨by rw [h1, exC2], h2⟩
theorem ex_prove1 {w V : World} {k : Nat} {m : Mem} (h : Live w V k exS4 m) {b : Nat} (hp : RwP V (some ⟨b, 0, none⟩) b 0 1 [(0, 0)]) :
    Calls Try.prog 28 #[.pointer (some ⟨k, 0, none⟩), .agg (prfA exP1 (some ⟨b, 0, none⟩) 1).toArray] V fun e V' => e = .returned (.int .i64 0) ∧ ∃ m', Live w V' k exS5 m' ∧ Turn k V V' exS4 exS5 m m' :=
  (prove_live h exP1 (some ⟨b, 0, none⟩) b 0 1 hp).mono fun e V' ⟨h1, h2⟩ => ⟨by rw [h1, exP1_], h2⟩
theorem ex_prove2 {w V : World} {k : Nat} {m : Mem} (h : Live w V k exS5 m) {b : Nat} (hp : RwP V (some ⟨b, 0, none⟩) b 0 1 [(0, 0)]) :
    Calls Try.prog 28 #[.pointer (some ⟨k, 0, none⟩), .agg (prfA exP2 (some ⟨b, 0, none⟩) 1).toArray] V fun e V' => e = .returned (.int .i64 0) ∧ ∃ m', Live w V' k exS6 m' ∧ Turn k V V' exS5 exS6 m m' :=
  (prove_live h exP2 (some ⟨b, 0, none⟩) b 0 1 hp).mono fun e V' ⟨h1, h2⟩ => ⟨by rw [h1, exP2_], h2⟩
theorem Live.set {w V : World} {k : Nat} {s : BS} {m : Mem} (h : Live w V k s m) {b : Nat} (hn : b ∉ m.own k s) (hw : w.heap.size ≤ b) (i : Nat) (v : Value) : Live w (V.setCell ⟨b, i, none⟩ v) k s m :=
  ⟨(h.at_.raw.frm (S := [b]) ((Frm.refl V.heap.size [b] V).setCell (p := ⟨b, i, none⟩) (.inl (by simp)) v) (fun q hq hm => hn (by simp at hm; rw [← hm]; exact hq))).at_ h.at_.inv, h.own, h.frm.setCell (p := ⟨b, i, none⟩) (.inr hw) v⟩
set_option maxRecDepth 100000 in
set_option maxHeartbeats 16000000 in
theorem awake_any (w : World) : Calls Try.prog 10 #[] w fun e w' => e = .returned (.bool true) ∧ Frm w.heap.size [] w w' := by
  have hf0 := Try.func10
  go_enter Try.func10, Try.ntmps10
  go_wp2_with fail
  refine (call_any 0 0 0 sX w).mono ?_; rintro e V1 ⟨b1, rfl, r1, hb1, hl1, hf⟩
  have R1 := Lib.hid r1
  have HF := Lib.hid hf
  clear hf r1
  go_wp2_with fail
  refine (call_any 60 30 60 sY V1).mono ?_; rintro e V2 ⟨b2, rfl, r2, hb2, hl2, hf1⟩
  have r1 := R1.out.frm hf1 (Nat.le_refl _)
  have hf := HF.out.call hf1 HF.out.size (by simp)
  clear hf1 HF R1
  have R1 := Lib.hid r1
  have R2 := Lib.hid r2
  have HF := Lib.hid hf
  clear hf r2 r1
  go_wp2_with fail
  refine (ex_cmp1 R1.out R2.out).mono ?_; rintro e V3 ⟨rfl, hf1⟩
  have hf := HF.out.call hf1 HF.out.size (by simp)
  clear hf1 HF R1 R2 hb1 hl1 hb2 hl2
  have HF := Lib.hid hf
  clear hf
  go_wp2_with fail
  refine (call_any 0 0 0 sX V3).mono ?_; rintro e V4 ⟨b3, rfl, r1, hb1, hl1, hf1⟩
  have hf := HF.out.call hf1 HF.out.size (by simp)
  clear hf1 HF
  have R1 := Lib.hid r1
  have HF := Lib.hid hf
  clear hf r1
  go_wp2_with fail
  refine (call_any 60 0 61 sY V4).mono ?_; rintro e V5 ⟨b4, rfl, r2, hb2, hl2, hf1⟩
  have r1 := R1.out.frm hf1 (Nat.le_refl _)
  have hf := HF.out.call hf1 HF.out.size (by simp)
  clear hf1 HF R1
  have R1 := Lib.hid r1
  have R2 := Lib.hid r2
  have HF := Lib.hid hf
  clear hf r2 r1
  go_wp2_with fail
  refine (ex_cmp2 R1.out R2.out).mono ?_; rintro e V6 ⟨rfl, hf1⟩
  have hf := HF.out.call hf1 HF.out.size (by simp)
  clear hf1 HF R1 R2 hb1 hl1 hb2 hl2
  have HF := Lib.hid hf
  clear hf
  go_wp2_with fail
  refine (new_live 3600 3600 exA3 HF.out).mono ?_; rintro e V7 ⟨k, rfl, hlv, hf1, hk⟩
  clear hf1 hk HF
  have HL := Lib.hid hlv
  clear hlv
  go_wp2_with fail
  refine (call_any 0 0 0 sX V7).mono ?_; rintro e V8 ⟨b7, rfl, r7, hb7, hl7, hf1⟩
  have hlv := HL.out.still hf1
  have hn7 := HL.out.new hb7
  clear hf1 HL hb7
  have R7 := Lib.hid r7
  have HL := Lib.hid hlv
  have HN7 := Lib.hid hn7
  have HL7 := Lib.hid hl7
  clear hl7 hn7 hlv r7
  go_wp2_with (with_reducible refine atStore 24 rfl ?_; refine stop_ ?_)
  refine go_on ?_
  refine wpList_storeNew (P := Try.prog) (cs := repC (callR 0 0 0 sX) (some ⟨b7, 0, none⟩) 1) rfl rfl rfl rfl rfl info24 (by simp [repC, callR, Value.oneCell']) ?_
  intro V9 hf1 k7 hz; clear hz
  obtain ⟨p7, hp7⟩ : ∃ p, p = V8.heap.size := ⟨_, rfl⟩
  have hw7 : w.heap.size ≤ p7 := by have := HL.out.frm.size; omega
  have hm7 : p7 ∉ emptyM.own k exS0 := HL.out.new (by omega)
  have hlv := HL.out.still hf1
  have r7 := R7.out.frm hf1 (Nat.le_refl _)
  have hlt := HL7.out
  have hl7 : b7 < V9.heap.size := Nat.lt_of_lt_of_le hlt hf1.size
  have hne7 : b7 ≠ p7 := by omega
  rw [← hp7] at k7 ⊢
  dsimp only [Act.put]
  have c0 : V9.cell? ⟨p7, 0, none⟩ = some (.int .i64 2) := k7.cell 0
  have g0 := k7.free 0
  clear hf1 HL hp7 hlt HL7 R7
  have R7 := Lib.hid r7
  have HL := Lib.hid hlv
  have HM7 := Lib.hid hm7
  have HL7 := Lib.hid hl7
  have K7 := Lib.hid k7
  have HNE7 := Lib.hid hne7
  have HW7 := Lib.hid hw7
  clear hw7 hne7 k7 hl7 hm7 hlv r7
  go_upto_region 8 with fail
  have k7 : Blk _ p7 24 (repC exR1 (some ⟨b7, 0, none⟩) 1) := K7.out.set 0 (.int .i64 3)
  have hlv := HL.out.set HM7.out HW7.out 0 (.int .i64 3)
  have r7 := rw_other R7.out ⟨p7, 0, none⟩ (.int .i64 3) (fun e => HNE7.out e.symm)
  have hl7 : b7 < (World.setCell V9 ⟨p7, 0, none⟩ (.int .i64 3)).heap.size := by simpa [World.setCell] using HL7.out
  generalize World.setCell V9 _ _ = V10 at k7 hlv r7 hl7 ⊢
  clear K7 HL R7 HL7 HNE7 c0 g0
  have R7 := Lib.hid r7
  have HL := Lib.hid hlv
  have HL7 := Lib.hid hl7
  have K7 := Lib.hid k7
  clear k7 hl7 hlv r7
  go_wp2_with fail
  refine (call_any 90 5000 0 ⟨#[115, 97, 116]⟩ V10).mono ?_; rintro e V11 ⟨b8, rfl, r8, hb8, hl8, hf1⟩
  have hn8 := HL.out.new hb8
  have hlv := HL.out.still hf1
  have r7 := R7.out.frm hf1 (Nat.le_refl _)
  have k7 := hf1.blk K7.out K7.out.lt (by simp)
  have hl7 := Nat.lt_of_lt_of_le HL7.out hf1.size
  clear hf1 HL R7 K7 HL7 hb8
  have R7 := Lib.hid r7
  have HL := Lib.hid hlv
  have HL7 := Lib.hid hl7
  have K7 := Lib.hid k7
  have R8 := Lib.hid r8
  have HL8 := Lib.hid hl8
  have HN8 := Lib.hid hn8
  clear hn8 hl8 r8 k7 hl7 hlv r7
  go_wp2_with (with_reducible refine atStore 24 rfl ?_; refine stop_ ?_)
  refine go_on ?_
  refine wpList_storeNew (P := Try.prog) (cs := repC (callR 90 5000 0 ⟨#[115, 97, 116]⟩) (some ⟨b8, 0, none⟩) 1) rfl rfl rfl rfl rfl info24 (by simp [repC, callR, Value.oneCell']) ?_
  intro V12 hf1 k8 hz; clear hz
  obtain ⟨p8, hp8⟩ : ∃ p, p = V11.heap.size := ⟨_, rfl⟩
  have hw8 : w.heap.size ≤ p8 := by have := HL.out.frm.size; omega
  have hm8 : p8 ∉ emptyM.own k exS0 := HL.out.new (by omega)
  have hlv := HL.out.still hf1
  have r7 := R7.out.frm hf1 (Nat.le_refl _)
  have r8 := R8.out.frm hf1 (Nat.le_refl _)
  have k7 := hf1.blk K7.out K7.out.lt (by simp)
  have hlt7 := K7.out.lt
  have hlt := HL8.out
  have hl7o := HL7.out
  have hl7 := Nat.lt_of_lt_of_le HL7.out hf1.size
  have hl8 := Nat.lt_of_lt_of_le HL8.out hf1.size
  have hne8 : b8 ≠ p8 := by omega
  have hne9 : p7 ≠ p8 := by omega
  have hne0 : b7 ≠ p8 := by omega
  rw [← hp8] at k8 ⊢
  dsimp only [Act.put]
  have c0 : V12.cell? ⟨p8, 0, none⟩ = some (.int .i64 2) := k8.cell 0
  have g0 := k8.free 0
  have c3 : V12.cell? ⟨p8, 3, none⟩ = some (.string ⟨#[]⟩) := k8.cell 3
  have g3 := k8.free 3
  clear hf1 HL hp8 hlt hl7o HL7 R7 HL8 R8 K7 hlt7
  have R7 := Lib.hid r7
  have HL := Lib.hid hlv
  have HL7 := Lib.hid hl7
  have K7 := Lib.hid k7
  have R8 := Lib.hid r8
  have HL8 := Lib.hid hl8
  have HM8 := Lib.hid hm8
  have HW8 := Lib.hid hw8
  have K8 := Lib.hid k8
  have HNE8 := Lib.hid hne8
  have HNE9 := Lib.hid hne9
  have HNE0 := Lib.hid hne0
  clear hne0 hne9 hne8 k8 hw8 hm8 hl8 r8 k7 hl7 hlv r7
  go_upto_region 10 with fail
  have k8 : Blk _ p8 24 (repC exR3 (some ⟨b8, 0, none⟩) 1) := (K8.out.set 0 (.int .i64 1)).set 3 (.string ⟨#[98, 49]⟩)
  have hlv := (HL.out.set HM8.out HW8.out 0 (.int .i64 1)).set HM8.out HW8.out 3 (.string ⟨#[98, 49]⟩)
  have r7 := rw_other (rw_other R7.out ⟨p8, 0, none⟩ (.int .i64 1) (fun e => HNE0.out e.symm)) ⟨p8, 3, none⟩ (.string ⟨#[98, 49]⟩) (fun e => HNE0.out e.symm)
  have r8 := rw_other (rw_other R8.out ⟨p8, 0, none⟩ (.int .i64 1) (fun e => HNE8.out e.symm)) ⟨p8, 3, none⟩ (.string ⟨#[98, 49]⟩) (fun e => HNE8.out e.symm)
  have k7 := (K7.out.other ⟨p8, 0, none⟩ (fun e => HNE9.out e.symm) (.int .i64 1)).other ⟨p8, 3, none⟩ (fun e => HNE9.out e.symm) (.string ⟨#[98, 49]⟩)
  have hl8 : b8 < (World.setCell (World.setCell V12 ⟨p8, 0, none⟩ (.int .i64 1)) ⟨p8, 3, none⟩ (.string ⟨#[98, 49]⟩)).heap.size := by simpa [World.setCell] using HL8.out
  generalize World.setCell (World.setCell V12 _ _) _ _ = V13 at k7 hlv r7 r8 k8 hl8 ⊢
  clear K7 HL R7 HL7 HL8 R8 K8 c0 g0 c3 g3 HNE8 HNE9 HNE0
  have R7 := Lib.hid r7
  have HL := Lib.hid hlv
  have K7 := Lib.hid k7
  have R8 := Lib.hid r8
  have K8 := Lib.hid k8
  have HL8 := Lib.hid hl8
  clear hl8 k8 r8 k7 hlv r7
  go_wp2_with (with_reducible refine atLoad 24 rfl ?_; first | refine wpList_loadE rfl rfl rfl (load24 K7.out rfl) ?_ | refine wpList_loadE rfl rfl rfl (load24 K8.out rfl) ?_)
  refine (ex_take1 HL.out R7.out HN7.out).mono ?_; rintro e V14 ⟨rfl, m1, hlv, ht⟩
  obtain ⟨k8, hm8⟩ := ht.blk K8.out HM8.out
  obtain ⟨r8, hn8, hl8⟩ := ht.rw R8.out HN8.out HL8.out
  clear ht HL K7 R7 HN7 HM7 HW7 K8 HM8 R8 HN8 HL8
  have HL := Lib.hid hlv
  have K8 := Lib.hid k8
  have HM8 := Lib.hid hm8
  have R8 := Lib.hid r8
  have HN8 := Lib.hid hn8
  have HL8 := Lib.hid hl8
  clear hl8 hn8 r8 hm8 k8 hlv
  go_wp2_with fail
  refine (call_any 60 30 30 sY V14).mono ?_; rintro e V15 ⟨b9, rfl, r9, hb9, hl9, hf1⟩
  have hn9 := HL.out.new hb9
  have hlv := HL.out.still hf1
  have r8 := R8.out.frm hf1 (Nat.le_refl _)
  have k8 := hf1.blk K8.out K8.out.lt (by simp)
  have hl8 := Nat.lt_of_lt_of_le HL8.out hf1.size
  clear hf1 HL R8 K8 HL8 hb9 hl9
  have R8 := Lib.hid r8
  have HL := Lib.hid hlv
  have K8 := Lib.hid k8
  have HL8 := Lib.hid hl8
  have R9 := Lib.hid r9
  have HN9 := Lib.hid hn9
  clear hn9 r9 hl8 k8 hlv r8
  go_wp2_with fail
  refine (ex_take2 HL.out R9.out HN9.out).mono ?_; rintro e V16 ⟨rfl, m2, hlv, ht⟩
  clear R9 HN9
  obtain ⟨k8, hm8⟩ := ht.blk K8.out HM8.out
  obtain ⟨r8, hn8, hl8⟩ := ht.rw R8.out HN8.out HL8.out
  clear ht HL K8 HM8 R8 HN8 HL8
  have HL := Lib.hid hlv
  have K8 := Lib.hid k8
  have HM8 := Lib.hid hm8
  have R8 := Lib.hid r8
  have HN8 := Lib.hid hn8
  have HL8 := Lib.hid hl8
  clear hl8 hn8 r8 hm8 k8 hlv
  go_wp2_with (with_reducible refine atLoad 24 rfl ?_; refine wpList_loadE rfl rfl rfl (load24 K8.out rfl) ?_)
  refine (ex_take3 HL.out R8.out HN8.out).mono ?_; rintro e V17 ⟨rfl, m3, hlv, ht⟩
  clear ht HL K8 R8 HL8 HN8 HM8
  have HL := Lib.hid hlv
  clear hlv
  go_wp2_with fail
  refine (ex_close1 HL.out).mono ?_; rintro e V18 ⟨rfl, m4, hlv, ht⟩
  clear ht HL
  have HL := Lib.hid hlv
  clear hlv
  go_upto_region 15 with fail
  have hbn := Blk.new V18 71 [.int .i64 0, .int .i64 0]
  have hlv := HL.out.still ((Frm.refl V18.heap.size [] V18).alloc (Nat.le_refl _) (.cells [Value.int .i64 0, .int .i64 0].toArray 71))
  have hn := HL.out.new (Nat.le_refl _)
  obtain ⟨bh, hbh⟩ : ∃ b, b = V18.heap.size := ⟨_, rfl⟩
  rw [← hbh] at hbn hn ⊢
  generalize World.alloc V18 _ = V19 at hbn hlv ⊢
  clear hbh HL
  have HB := Lib.hid hbn
  have HL := Lib.hid hlv
  have HN := Lib.hid hn
  clear hn hlv hbn
  go_wp2_with fail
  refine (ex_prove1 HL.out (one_rw HB.out)).mono ?_; rintro e V20 ⟨rfl, m5, hlv, ht⟩
  obtain ⟨hbn, hn⟩ := ht.blk HB.out HN.out
  clear ht HL HB HN
  have HB := Lib.hid hbn
  have HL := Lib.hid hlv
  have HN := Lib.hid hn
  clear hn hlv hbn
  go_wp2_with fail
  refine (ex_prove2 HL.out (one_rw HB.out)).mono ?_; rintro e V21 ⟨rfl, m6, hlv, ht⟩
  clear ht HL HB HN
  have HL := Lib.hid hlv
  clear hlv
  go_wp2_with fail
  refine (ex_close2 HL.out).mono ?_; rintro e V22 ⟨rfl, m7, hlv, ht⟩
  clear ht HL
  have HL := Lib.hid hlv
  clear hlv
  go_wp2_with fail
  go_ret
  exact ⟨rfl, HL.out.frm⟩
end Go.Proofs.Ythgmdilfmeefiaa
