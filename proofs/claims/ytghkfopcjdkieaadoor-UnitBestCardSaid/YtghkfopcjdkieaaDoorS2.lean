/-
  Choices of units: the plain words; what is done for each choice.
-/
import Derived.Test.YtghkfopcjdkieaaDoorS1
import Derived.Test.YtghkfopcjdkieaaDoorU24
namespace Go.Proofs.YtghkfopcjdkieaaDoor
set_option linter.all false
set_option linter.unusedSimpArgs false
set_option linter.unusedVariables false
open Go.RowKit

attribute [local go_sem ↓ high] run_min_ run_max_ run_min2 run_max2
/-- The greatest of the first numbers of a choice, and their sum; A: goal, unit. -/
def lateN (A : Nat → Nat → Int) (c : List Nat) : Nat → Int
  | 0 => 0
  | k + 1 => max (lateN A c k) (A k (c.getD k 0))
def sumN (A : Nat → Nat → Int) (c : List Nat) : Nat → Int
  | 0 => 0
  | k + 1 => sumN A c k + A k (c.getD k 0)
def lateC (A : Nat → Nat → Int) (c : List Nat) : Int := lateN A c c.length
def sumC (A : Nat → Nat → Int) (c : List Nat) : Int := sumN A c c.length
/-- The best choice as yet. -/
structure SC where
  which : List Nat
  late : Int
  sum : Int
  found : Bool
def takesIt (A : Nat → Nat → Int) (s : SC) (c : List Nat) : Bool := !s.found || (decide (lateC A c < s.late) || (decide (lateC A c = s.late) && decide (sumC A c < s.sum)))
def takeS (A : Nat → Nat → Int) (s : SC) (c : List Nat) : SC := if takesIt A s c = true then ⟨c, lateC A c, sumC A c, true⟩ else s
/-- All choices that go on from one, in order. -/
def ext (N : Nat) : Nat → List Nat → List (List Nat)
  | 0, l => [l]
  | d + 1, l => (List.range N).flatMap fun i => if l.contains i then [] else ext N d (l ++ [i])

def intsC (l : List Nat) : List Value := l.map fun (n : Nat) => Value.int .i64 (n : Int)
theorem intsC_len (l : List Nat) : (intsC l).length = l.length := by simp [intsC]
theorem intsC_one (l : List Nat) : ∀ u ∈ intsC l, u.oneCell' = true := by
  intro u hu
  simp only [intsC, List.mem_map] at hu
  obtain ⟨n, _, rfl⟩ := hu
  rfl
theorem Sl.ints {w : World} {v : Value} {n : Nat} {l : List Nat} {own : Option Nat} (h : Sl w 3 1 v n (intsC l) own) : l.length = n ∧ ∃ ad b off cap, v = .slice ad n cap ∧ RwI w ad b off n fun i => (l.getD i 0 : Int) := by
  have hl : l.length = n := by have := h.1; rw [intsC_len] at this; omega
  refine ⟨hl, ?_⟩
  rcases h.2 with ⟨e, e2, _⟩ | ⟨b, off, cap, arr, e1, e2, e3, e4, e5, e6, e7⟩
  · subst e2
    exact ⟨none, 0, 0, 0, e, ⟨fun h => absurd h (by omega), Nat.zero_le _, fun i hi => absurd hi (by omega)⟩⟩
  · refine ⟨some ⟨b, off, none⟩, b, off, cap, e1, ⟨fun _ => rfl, Nat.le_trans e4 e5, fun i hi k v hv => ?_⟩⟩
    subst e1
    have hk : k = 0 := by have := (List.getElem?_eq_some_iff.1 hv).1; simp at this; omega
    subst hk
    have hc := h.cell i (by rw [intsC_len]; omega)
    simp only [Nat.mul_one, Nat.add_zero]
    rw [hc]
    simp only [intsC, List.getElem?_map, List.getElem?_eq_getElem (show i < l.length by omega), Option.map_some]
    rw [← hv]
    simp [List.getD_eq_getElem?_getD, List.getElem?_eq_getElem (show i < l.length by omega)]

/-- What a team is: units, when they start, where they are to go. -/
structure TeamW (V : World) (ua : Option Addr) (ub uo N : Nat) (U : Nat → UC) (sa : Option Addr) (sb so M : Nat) (T : Nat → Int) (ga : Option Addr) (gb go G : Nat) (Q : Nat → Int × Int) : Prop where
  u : Rw V 12 ua ub uo N fun i => (U i).cells
  s : RwI V sa sb so M T
  g : Rw V 2 ga gb go G fun i => [.int .i64 (Q i).1, .int .i64 (Q i).2]
def arrA (U : Nat → UC) (T : Nat → Int) (Q : Nat → Int × Int) (k i : Nat) : Int := T i + takesZ (U i).speed (U i).bx (U i).by_ (Q k).1 (Q k).2
/-- A team's numbers are valid. -/
structure TeamOK (N : Nat) (U : Nat → UC) (T : Nat → Int) (G : Nat) (Q : Nat → Int × Int) : Prop where
  u : ∀ i, i < N → UOK (U i)
  t : ∀ i, i < N → 0 ≤ T i ∧ T i ≤ 1073741824
  g : ∀ k, k < G → placeB (Q k).1 (Q k).2 = true
  n6 : N ≤ 6
  gn : G ≤ N
theorem TeamOK.arr {N : Nat} {U : Nat → UC} {T : Nat → Int} {G : Nat} {Q : Nat → Int × Int} (h : TeamOK N U T G Q) {k i : Nat} (hk : k < G) (hi : i < N) : 0 ≤ arrA U T Q k i ∧ arrA U T Q k i ≤ 300000000000 := by
  have h1 := takesZ_in (speed := (U i).speed) (h.u i hi).speed.1 (h.u i hi).base (h.g k hk)
  have h2 := h.t i hi
  unfold arrA
  omega
theorem TeamOK.low {N : Nat} {U : Nat → UC} {T : Nat → Int} {G : Nat} {Q : Nat → Int × Int} (h : TeamOK N U T G Q) {c : List Nat} (hc : ∀ k, k < c.length → c.getD k 0 < N) (hl : c.length ≤ G) :
    ∀ k, k ≤ c.length → (0 ≤ lateN (arrA U T Q) c k ∧ lateN (arrA U T Q) c k ≤ 300000000000) ∧ 0 ≤ sumN (arrA U T Q) c k ∧ sumN (arrA U T Q) c k ≤ 300000000000 * k
  | 0, _ => by simp [lateN, sumN]
  | k + 1, hk => by
    obtain ⟨h1, h2⟩ := h.low hc hl k (by omega)
    have h3 := h.arr (k := k) (i := c.getD k 0) (by omega) (hc k (by omega))
    unfold lateN sumN
    omega
/-- The state of the search: which, late, sum, found, in their boxes. -/
structure StAt (V : World) (pw pl ps pf : Nat) (s : SC) : Prop where
  bf : Blk V pf 4 [.bool s.found]
  bl : Blk V pl 3 [.int .i64 s.late]
  bs : Blk V ps 3 [.int .i64 s.sum]
  bw : ∃ ov own, Blk V pw 64 [ov] ∧ Sl V 3 1 ov s.which.length (intsC s.which) own ∧ ∀ b, own = some b → b ∉ [pw, pl, ps, pf] ∧ pw ≤ b + 3
/-- The boxes of what was given. -/
structure Given (V : World) (c : Nat) (ua : Option Addr) (N ucap : Nat) (sa : Option Addr) (scap : Nat) (ga : Option Addr) (G gcap : Nat) : Prop where
  u : Blk V c 74 [.slice ua N ucap]
  s : Blk V (c + 1) 64 [.slice sa N scap]
  g : Blk V (c + 2) 75 [.slice ga G gcap]
theorem Given.frm {V V' : World} {c e B : Nat} {ua : Option Addr} {N ucap : Nat} {sa : Option Addr} {scap : Nat} {ga : Option Addr} {G gcap : Nat} (h : Given V c ua N ucap sa scap ga G gcap) (hce : c + 3 < e) (hf : Frm B [c + 3, e, e + 1, e + 2] V V') (hB : V.heap.size ≤ B) : Given V' c ua N ucap sa scap ga G gcap :=
  ⟨hf.blk h.u (Nat.lt_of_lt_of_le h.u.lt hB) (by simp; omega), hf.blk h.s (Nat.lt_of_lt_of_le h.s.lt hB) (by simp; omega), hf.blk h.g (Nat.lt_of_lt_of_le h.g.lt hB) (by simp; omega)⟩
theorem Given.frm0 {V V' : World} {c B : Nat} {ua : Option Addr} {N ucap : Nat} {sa : Option Addr} {scap : Nat} {ga : Option Addr} {G gcap : Nat} (h : Given V c ua N ucap sa scap ga G gcap) (hf : Frm B [] V V') (hB : V.heap.size ≤ B) : Given V' c ua N ucap sa scap ga G gcap :=
  ⟨hf.blk h.u (Nat.lt_of_lt_of_le h.u.lt hB) (by simp), hf.blk h.s (Nat.lt_of_lt_of_le h.s.lt hB) (by simp), hf.blk h.g (Nat.lt_of_lt_of_le h.g.lt hB) (by simp)⟩
theorem StAt.frm0 {V V' : World} {c e B : Nat} {s : SC} (h : StAt V (c + 3) e (e + 1) (e + 2) s) (hf : Frm B [] V V') (hB : V.heap.size ≤ B) : StAt V' (c + 3) e (e + 1) (e + 2) s := by
  obtain ⟨ov, own, h1, h2, h3⟩ := h.bw
  exact ⟨hf.blk h.bf (Nat.lt_of_lt_of_le h.bf.lt hB) (by simp), hf.blk h.bl (Nat.lt_of_lt_of_le h.bl.lt hB) (by simp), hf.blk h.bs (Nat.lt_of_lt_of_le h.bs.lt hB) (by simp), ov, own, hf.blk h1 (Nat.lt_of_lt_of_le h1.lt hB) (by simp), h2.frm hf (fun b hb => Nat.lt_of_lt_of_le (h2.lt b hb) hB) (by simp), h3⟩
def doCaps (c e : Nat) : Array Value := #[.pointer (some ⟨c + 1, 0, none⟩), .pointer (some ⟨c, 0, none⟩), .pointer (some ⟨c + 2, 0, none⟩), .pointer (some ⟨e + 2, 0, none⟩), .pointer (some ⟨e, 0, none⟩), .pointer (some ⟨e + 1, 0, none⟩), .pointer (some ⟨c + 3, 0, none⟩)]
theorem TeamW.frm {V V' : World} {B : Nat} {ua : Option Addr} {ub uo N : Nat} {U : Nat → UC} {sa : Option Addr} {sb so M : Nat} {T : Nat → Int} {ga : Option Addr} {gb go G : Nat} {Q : Nat → Int × Int} (h : TeamW V ua ub uo N U sa sb so M T ga gb go G Q) (hf : Frm B [] V V') (hB : V.heap.size ≤ B) : TeamW V' ua ub uo N U sa sb so M T ga gb go G Q :=
  ⟨h.u.frm hf hB, h.s.frm hf hB, h.g.frm hf hB⟩

set_option maxRecDepth 100000 in
set_option maxHeartbeats 8000000 in
theorem do_any (ua : Option Addr) (ub uo N ucap : Nat) (U : Nat → UC) (sa : Option Addr) (sb so scap : Nat) (T : Nat → Int) (ga : Option Addr) (gb go_ G gcap : Nat) (Q : Nat → Int × Int) (c e : Nat) (hce : c + 3 < e) (ok : TeamOK N U T G Q)
    (w V : World) (hw : Frm w.heap.size [] w V) (tw : TeamW w ua ub uo N U sa sb so N T ga gb go_ G Q) (hg : Given V c ua N ucap sa scap ga G gcap) (s : SC) (hs : StAt V (c + 3) e (e + 1) (e + 2) s)
    (l : List Nat) (hlt : ∀ k, k < l.length → l.getD k 0 < N) (lv : Value) (own : Option Nat) (hsl : Sl V 3 1 lv G (intsC l) own) (hown : ∀ b, own = some b → b ∉ [c + 3, e, e + 1, e + 2] ∧ c ≤ b) :
    Calls Tryd.prog 83 #[lv, .pointer (some ⟨c + 1, 0, none⟩), .pointer (some ⟨c, 0, none⟩), .pointer (some ⟨c + 2, 0, none⟩), .pointer (some ⟨e + 2, 0, none⟩), .pointer (some ⟨e, 0, none⟩), .pointer (some ⟨e + 1, 0, none⟩), .pointer (some ⟨c + 3, 0, none⟩)] V fun en V' =>
      (∃ v, en = .returned v) ∧ StAt V' (c + 3) e (e + 1) (e + 2) (takeS (arrA U T Q) s l) ∧ Frm V.heap.size [c + 3, e, e + 1, e + 2] V V' := by
  have hf0 := Tryd.func83
  obtain ⟨hll, la, lb, lo, lcap, rfl, hrl⟩ := hsl.ints
  obtain ⟨A, hA⟩ : ∃ A, A = arrA U T Q := ⟨_, rfl⟩
  have hlow := ok.low hlt (by omega)
  rw [← hA] at hlow ⊢
  have HRL := Lib.hid hrl
  have HSL := Lib.hid hsl
  have HOWN := Lib.hid hown
  have HS0 := Lib.hid hs
  have HG := Lib.hid hg
  have HTW := Lib.hid tw
  have HW := Lib.hid hw
  have HOK := Lib.hid ok
  have HLOW := Lib.hid hlow
  have HA := Lib.hid hA
  have HLTT := Lib.hid hlt
  have HLL := Lib.hid hll
  have HCE := Lib.hid hce
  clear hce hll hlt hA hlow ok hw tw hg hs hown hsl hrl
  go_enter Tryd.func83, Tryd.ntmps83
  go_wp2_with fail
  go_loopw [9, 10, 16] (fun s9 s10 s16 wr => ∃ k : Nat, s16 = .int .i64 k ∧ k ≤ G ∧ s9 = .int .i64 (lateN A l k) ∧ s10 = .int .i64 (sumN A l k) ∧ Frm V.heap.size [] V wr) (fun _ _ s16 _ => G - (intOf s16).toNat)
  case atStart => exact ⟨0, rfl, Nat.zero_le _, rfl, rfl, by repeat (first | with_reducible exact Frm.refl _ _ _ | with_reducible refine Frm.drewN ?_ | with_reducible refine Frm.drew ?_ | ((with_reducible refine Frm.setCell' ?_ ?_); · first | (left; simp; done) | (right; simp; done) | (right; simp; omega)) | ((with_reducible refine Frm.alloc' ?_ ?_); · first | exact Nat.le_refl _ | (simp; done) | (simp; omega)))⟩
  case round =>
    obtain ⟨k, rfl, hk, rfl, rfl, hfr⟩ := hrel
    by_cases hkl : k < G
    · have hkl' : (k : Int) < (G : Int) := by omega
      obtain ⟨i, hi⟩ : ∃ i, i = l.getD k 0 := ⟨_, rfl⟩
      have hiN : i < N := by rw [hi]; exact HLTT.out k (by have := HLL.out; omega)
      have hiN' : (i : Int) < (N : Int) := by omega
      have hla := HRL.out.ad (by omega)
      subst hla
      have c0 : wr.cell? ⟨lb, lo + k, none⟩ = some (.int .i64 i) := by rw [hi]; exact (HRL.out.frm hfr (Nat.le_refl _)).cellI hkl
      have hua := HTW.out.u.ad (by omega)
      subst hua
      have hsa := HTW.out.s.ad (by omega)
      subst hsa
      have hga := HTW.out.g.ad (by omega)
      subst hga
      obtain ⟨u, hu⟩ : ∃ u, u = U i := ⟨_, rfl⟩
      obtain ⟨t, ht⟩ : ∃ t, t = T i := ⟨_, rfl⟩
      obtain ⟨gx, hgx⟩ : ∃ x, x = (Q k).1 := ⟨_, rfl⟩
      obtain ⟨gy, hgy⟩ : ∃ x, x = (Q k).2 := ⟨_, rfl⟩
      have huo : UOK u := by rw [hu]; exact HOK.out.u i hiN
      have hgp : placeB gx gy = true := by rw [hgx, hgy]; exact HOK.out.g k hkl
      obtain ⟨tk, htk⟩ : ∃ x, x = takesZ u.speed u.bx u.by_ gx gy := ⟨_, rfl⟩
      obtain ⟨ar, har⟩ : ∃ x, x = A k i := ⟨_, rfl⟩
      have har2 : t + tk = ar := by rw [har, HA.out, ht, htk, hu, hgx, hgy]; rfl
      have hab := HOK.out.arr hkl hiN
      rw [← HA.out, ← har] at hab
      have w1 : IntKind.i64.wrap (t + tk) = ar := by rw [har2]; exact IntWalk.i64_in _ (by omega)
      obtain ⟨lk, hlk⟩ : ∃ x, x = lateN A l k := ⟨_, rfl⟩
      obtain ⟨sk, hsk⟩ : ∃ x, x = sumN A l k := ⟨_, rfl⟩
      have hlo := HLOW.out k (by have := HLL.out; omega)
      rw [← hlk, ← hsk] at hlo
      have hG6 : G ≤ 6 := by have := HOK.out.n6; have := HOK.out.gn; omega
      have w2 : IntKind.i64.wrap (sk + ar) = sk + ar := IntWalk.i64_in _ (by omega)
      have w3 : wrap64 (sk + ar) = sk + ar := IntWalk.wrap64_in _ (by omega)
      have w4 : IntKind.i64.wrap ((k : Int) + 1) = (k : Int) + 1 := IntWalk.i64_in _ (by omega)
      have w5 : wrap64 ((k : Int) + 1) = (k : Int) + 1 := IntWalk.wrap64_in _ (by omega)
      have hnl : lateN A l (k + 1) = max lk ar := by unfold lateN; rw [← hlk, ← hi, ← har]
      have hns : sumN A l (k + 1) = sk + ar := by unfold sumN; rw [← hsk, ← hi, ← har]
      rw [← hlk, ← hsk]
      have hfx : ∀ X, Frm wr.heap.size [] wr X → X.cell? ⟨c + 1, 0, none⟩ = some (.slice (some ⟨sb, so, none⟩) N scap) ∧ X.cell? ⟨c, 0, none⟩ = some (.slice (some ⟨ub, uo, none⟩) N ucap) ∧ X.cell? ⟨c + 2, 0, none⟩ = some (.slice (some ⟨gb, go_, none⟩) G gcap)
          ∧ X.cell? ⟨sb, so + i, none⟩ = some (.int .i64 t) ∧ X.cell? ⟨ub, uo + i * 12 + 8, none⟩ = some (.int .i64 u.bx) ∧ X.cell? ⟨ub, uo + i * 12 + 9, none⟩ = some (.int .i64 u.by_) ∧ X.cell? ⟨gb, go_ + k * 2, none⟩ = some (.int .i64 gx) ∧ X.cell? ⟨gb, go_ + k * 2 + 1, none⟩ = some (.int .i64 gy) := fun X hX => by
        have hVX := hfr.call hX hfr.size (by simp)
        have g0 := HG.out.frm0 hVX (Nat.le_refl _)
        have t0 := HTW.out.frm (HW.out.call hVX HW.out.size (by simp)) (Nat.le_refl _)
        refine ⟨g0.s.cell 0, g0.u.cell 0, g0.g.cell 0, ?_, ?_, ?_, ?_, ?_⟩
        · rw [ht]; exact t0.s.cellI hiN
        · rw [hu]; exact t0.u.at_ i hiN 8 _ rfl
        · rw [hu]; exact t0.u.at_ i hiN 9 _ rfl
        · rw [hgx]; exact t0.g.at_ k hkl 0 _ rfl
        · rw [hgy]; exact t0.g.at_ k hkl 1 _ rfl
      have hlu : ∀ X, Frm wr.heap.size [] wr X → (loadVar 25 ⟨ub, uo + i * 12, none⟩).run Tryd.prog X = .ok (.agg u.cells.toArray) X := fun X hX => by
        rw [hu]
        exact (HTW.out.frm (HW.out.call (hfr.call hX hfr.size (by simp)) HW.out.size (by simp)) (Nat.le_refl _)).u.load (P := Tryd.prog) Tryd.underlying25 rfl hiN (UC.info _)
      clear hab hlo har2
      have HI := Lib.hid hi
      have HIN := Lib.hid hiN
      have HU := Lib.hid hu
      have HT := Lib.hid ht
      have HGX := Lib.hid hgx
      have HGY := Lib.hid hgy
      have HUO := Lib.hid huo
      have HGP := Lib.hid hgp
      have HTK := Lib.hid htk
      have HAR := Lib.hid har
      have HLK := Lib.hid hlk
      have HSK := Lib.hid hsk
      have HNL := Lib.hid hnl
      have HNS := Lib.hid hns
      have HFX := Lib.hid hfx
      have HLU := Lib.hid hlu
      have HFR := Lib.hid hfr
      have HKL := Lib.hid hkl
      have HG6 := Lib.hid hG6
      clear hG6 hkl hfr hlu hfx hns hnl hsk hlk har htk hgp huo hgy hgx ht hu hiN hi
      go_upto_region 4 with fail
      refine wp_region_leftL (fun V => Frm wr.heap.size [] wr V) 1000 (by kernel_rfl) ?_
      have hS : Frm wr.heap.size [] wr wr.drew := (Frm.refl _ _ wr).drew
      have HS := Lib.hid hS
      clear hS
      first | (refine LeftL.run (v := ?_) 0 rfl (by kernel_rfl) rfl (fun _ _ d _ _ h => by cases d <;> exact h) ?_ HS.out ?_; rotate_left; (· intro V hV; obtain ⟨q0, q1, q2, q3, q4, q5, q6, q7⟩ := HFX.out V hV; clear hV; go_simp; rfl); (intro K' hK'; go_simp; refine hK' _ ?_; clear hK' K')) | (refine LeftL.runG (v := ?_) 0 rfl (by kernel_rfl) rfl (fun _ _ d _ _ h => by cases d <;> exact h) ?_ HS.out ?_; rotate_left; (· intro V hV; obtain ⟨q0, q1, q2, q3, q4, q5, q6, q7⟩ := HFX.out V hV; clear hV; go_simp; rfl); (intro K' hK'; go_simp; refine hK' _ ?_; clear hK' K')) | (refine LeftL.take (v := undef) 0 rfl (by kernel_rfl) (fun _ _ d _ _ h => by cases d <;> exact h) (.inr ⟨rfl, rfl⟩) HS.out ?_; (intro K' hK'; go_simp; refine hK' _ ?_; clear hK' K'))
      first | (refine LeftL.run (v := ?_) 1 rfl (by kernel_rfl) rfl (fun _ _ d _ _ h => by cases d <;> exact h) ?_ HS.out ?_; rotate_left; (· intro V hV; obtain ⟨q0, q1, q2, q3, q4, q5, q6, q7⟩ := HFX.out V hV; clear hV; go_simp; rfl); (intro K' hK'; go_simp; refine hK' _ ?_; clear hK' K')) | (refine LeftL.runG (v := ?_) 1 rfl (by kernel_rfl) rfl (fun _ _ d _ _ h => by cases d <;> exact h) ?_ HS.out ?_; rotate_left; (· intro V hV; obtain ⟨q0, q1, q2, q3, q4, q5, q6, q7⟩ := HFX.out V hV; clear hV; go_simp; rfl); (intro K' hK'; go_simp; refine hK' _ ?_; clear hK' K')) | (refine LeftL.take (v := undef) 1 rfl (by kernel_rfl) (fun _ _ d _ _ h => by cases d <;> exact h) (.inr ⟨rfl, rfl⟩) HS.out ?_; (intro K' hK'; go_simp; refine hK' _ ?_; clear hK' K'))
      first | (refine LeftL.run (v := ?_) 2 rfl (by kernel_rfl) rfl (fun _ _ d _ _ h => by cases d <;> exact h) ?_ HS.out ?_; rotate_left; (· intro V hV; obtain ⟨q0, q1, q2, q3, q4, q5, q6, q7⟩ := HFX.out V hV; clear hV; go_simp; rfl); (intro K' hK'; go_simp; refine hK' _ ?_; clear hK' K')) | (refine LeftL.runG (v := ?_) 2 rfl (by kernel_rfl) rfl (fun _ _ d _ _ h => by cases d <;> exact h) ?_ HS.out ?_; rotate_left; (· intro V hV; obtain ⟨q0, q1, q2, q3, q4, q5, q6, q7⟩ := HFX.out V hV; clear hV; go_simp; rfl); (intro K' hK'; go_simp; refine hK' _ ?_; clear hK' K')) | (refine LeftL.take (v := undef) 2 rfl (by kernel_rfl) (fun _ _ d _ _ h => by cases d <;> exact h) (.inr ⟨rfl, rfl⟩) HS.out ?_; (intro K' hK'; go_simp; refine hK' _ ?_; clear hK' K'))
      first | (refine LeftL.run (v := ?_) 3 rfl (by kernel_rfl) rfl (fun _ _ d _ _ h => by cases d <;> exact h) ?_ HS.out ?_; rotate_left; (· intro V hV; obtain ⟨q0, q1, q2, q3, q4, q5, q6, q7⟩ := HFX.out V hV; clear hV; go_simp; rfl); (intro K' hK'; go_simp; refine hK' _ ?_; clear hK' K')) | (refine LeftL.runG (v := ?_) 3 rfl (by kernel_rfl) rfl (fun _ _ d _ _ h => by cases d <;> exact h) ?_ HS.out ?_; rotate_left; (· intro V hV; obtain ⟨q0, q1, q2, q3, q4, q5, q6, q7⟩ := HFX.out V hV; clear hV; go_simp; rfl); (intro K' hK'; go_simp; refine hK' _ ?_; clear hK' K')) | (refine LeftL.take (v := undef) 3 rfl (by kernel_rfl) (fun _ _ d _ _ h => by cases d <;> exact h) (.inr ⟨rfl, rfl⟩) HS.out ?_; (intro K' hK'; go_simp; refine hK' _ ?_; clear hK' K'))
      first | (refine LeftL.run (v := ?_) 4 rfl (by kernel_rfl) rfl (fun _ _ d _ _ h => by cases d <;> exact h) ?_ HS.out ?_; rotate_left; (· intro V hV; obtain ⟨q0, q1, q2, q3, q4, q5, q6, q7⟩ := HFX.out V hV; clear hV; go_simp; rfl); (intro K' hK'; go_simp; refine hK' _ ?_; clear hK' K')) | (refine LeftL.runG (v := ?_) 4 rfl (by kernel_rfl) rfl (fun _ _ d _ _ h => by cases d <;> exact h) ?_ HS.out ?_; rotate_left; (· intro V hV; obtain ⟨q0, q1, q2, q3, q4, q5, q6, q7⟩ := HFX.out V hV; clear hV; go_simp; rfl); (intro K' hK'; go_simp; refine hK' _ ?_; clear hK' K')) | (refine LeftL.take (v := undef) 4 rfl (by kernel_rfl) (fun _ _ d _ _ h => by cases d <;> exact h) (.inr ⟨rfl, rfl⟩) HS.out ?_; (intro K' hK'; go_simp; refine hK' _ ?_; clear hK' K'))
      first | (refine LeftL.run (v := ?_) 5 rfl (by kernel_rfl) rfl (fun _ _ d _ _ h => by cases d <;> exact h) ?_ HS.out ?_; rotate_left; (· intro V hV; obtain ⟨q0, q1, q2, q3, q4, q5, q6, q7⟩ := HFX.out V hV; clear hV; go_simp; rfl); (intro K' hK'; go_simp; refine hK' _ ?_; clear hK' K')) | (refine LeftL.runG (v := ?_) 5 rfl (by kernel_rfl) rfl (fun _ _ d _ _ h => by cases d <;> exact h) ?_ HS.out ?_; rotate_left; (· intro V hV; obtain ⟨q0, q1, q2, q3, q4, q5, q6, q7⟩ := HFX.out V hV; clear hV; go_simp; rfl); (intro K' hK'; go_simp; refine hK' _ ?_; clear hK' K')) | (refine LeftL.take (v := undef) 5 rfl (by kernel_rfl) (fun _ _ d _ _ h => by cases d <;> exact h) (.inr ⟨rfl, rfl⟩) HS.out ?_; (intro K' hK'; go_simp; refine hK' _ ?_; clear hK' K'))
      first | (refine LeftL.run (v := ?_) 6 rfl (by kernel_rfl) rfl (fun _ _ d _ _ h => by cases d <;> exact h) ?_ HS.out ?_; rotate_left; (· intro V hV; obtain ⟨q0, q1, q2, q3, q4, q5, q6, q7⟩ := HFX.out V hV; clear hV; go_simp; rfl); (intro K' hK'; go_simp; refine hK' _ ?_; clear hK' K')) | (refine LeftL.runG (v := ?_) 6 rfl (by kernel_rfl) rfl (fun _ _ d _ _ h => by cases d <;> exact h) ?_ HS.out ?_; rotate_left; (· intro V hV; obtain ⟨q0, q1, q2, q3, q4, q5, q6, q7⟩ := HFX.out V hV; clear hV; go_simp; rfl); (intro K' hK'; go_simp; refine hK' _ ?_; clear hK' K')) | (refine LeftL.take (v := undef) 6 rfl (by kernel_rfl) (fun _ _ d _ _ h => by cases d <;> exact h) (.inr ⟨rfl, rfl⟩) HS.out ?_; (intro K' hK'; go_simp; refine hK' _ ?_; clear hK' K'))
      refine LeftL.take 7 rfl (by kernel_rfl) (fun _ _ d _ _ h => by cases d <;> exact h) (yields_loadE (ty := 25) rfl rfl rfl (HLU.out)) HS.out ?_; (intro K' hK'; go_simp; refine hK' _ ?_; clear hK' K')
      first | (refine LeftL.run (v := ?_) 8 rfl (by kernel_rfl) rfl (fun _ _ d _ _ h => by cases d <;> exact h) ?_ HS.out ?_; rotate_left; (· intro V hV; obtain ⟨q0, q1, q2, q3, q4, q5, q6, q7⟩ := HFX.out V hV; clear hV; go_simp; rfl); (intro K' hK'; go_simp; refine hK' _ ?_; clear hK' K')) | (refine LeftL.runG (v := ?_) 8 rfl (by kernel_rfl) rfl (fun _ _ d _ _ h => by cases d <;> exact h) ?_ HS.out ?_; rotate_left; (· intro V hV; obtain ⟨q0, q1, q2, q3, q4, q5, q6, q7⟩ := HFX.out V hV; clear hV; go_simp; rfl); (intro K' hK'; go_simp; refine hK' _ ?_; clear hK' K')) | (refine LeftL.take (v := undef) 8 rfl (by kernel_rfl) (fun _ _ d _ _ h => by cases d <;> exact h) (.inr ⟨rfl, rfl⟩) HS.out ?_; (intro K' hK'; go_simp; refine hK' _ ?_; clear hK' K'))
      first | (refine LeftL.run (v := ?_) 9 rfl (by kernel_rfl) rfl (fun _ _ d _ _ h => by cases d <;> exact h) ?_ HS.out ?_; rotate_left; (· intro V hV; obtain ⟨q0, q1, q2, q3, q4, q5, q6, q7⟩ := HFX.out V hV; clear hV; go_simp; rfl); (intro K' hK'; go_simp; refine hK' _ ?_; clear hK' K')) | (refine LeftL.runG (v := ?_) 9 rfl (by kernel_rfl) rfl (fun _ _ d _ _ h => by cases d <;> exact h) ?_ HS.out ?_; rotate_left; (· intro V hV; obtain ⟨q0, q1, q2, q3, q4, q5, q6, q7⟩ := HFX.out V hV; clear hV; go_simp; rfl); (intro K' hK'; go_simp; refine hK' _ ?_; clear hK' K')) | (refine LeftL.take (v := undef) 9 rfl (by kernel_rfl) (fun _ _ d _ _ h => by cases d <;> exact h) (.inr ⟨rfl, rfl⟩) HS.out ?_; (intro K' hK'; go_simp; refine hK' _ ?_; clear hK' K'))
      first | (refine LeftL.run (v := ?_) 10 rfl (by kernel_rfl) rfl (fun _ _ d _ _ h => by cases d <;> exact h) ?_ HS.out ?_; rotate_left; (· intro V hV; obtain ⟨q0, q1, q2, q3, q4, q5, q6, q7⟩ := HFX.out V hV; clear hV; go_simp; rfl); (intro K' hK'; go_simp; refine hK' _ ?_; clear hK' K')) | (refine LeftL.runG (v := ?_) 10 rfl (by kernel_rfl) rfl (fun _ _ d _ _ h => by cases d <;> exact h) ?_ HS.out ?_; rotate_left; (· intro V hV; obtain ⟨q0, q1, q2, q3, q4, q5, q6, q7⟩ := HFX.out V hV; clear hV; go_simp; rfl); (intro K' hK'; go_simp; refine hK' _ ?_; clear hK' K')) | (refine LeftL.take (v := undef) 10 rfl (by kernel_rfl) (fun _ _ d _ _ h => by cases d <;> exact h) (.inr ⟨rfl, rfl⟩) HS.out ?_; (intro K' hK'; go_simp; refine hK' _ ?_; clear hK' K'))
      first | (refine LeftL.run (v := ?_) 11 rfl (by kernel_rfl) rfl (fun _ _ d _ _ h => by cases d <;> exact h) ?_ HS.out ?_; rotate_left; (· intro V hV; obtain ⟨q0, q1, q2, q3, q4, q5, q6, q7⟩ := HFX.out V hV; clear hV; go_simp; rfl); (intro K' hK'; go_simp; refine hK' _ ?_; clear hK' K')) | (refine LeftL.runG (v := ?_) 11 rfl (by kernel_rfl) rfl (fun _ _ d _ _ h => by cases d <;> exact h) ?_ HS.out ?_; rotate_left; (· intro V hV; obtain ⟨q0, q1, q2, q3, q4, q5, q6, q7⟩ := HFX.out V hV; clear hV; go_simp; rfl); (intro K' hK'; go_simp; refine hK' _ ?_; clear hK' K')) | (refine LeftL.take (v := undef) 11 rfl (by kernel_rfl) (fun _ _ d _ _ h => by cases d <;> exact h) (.inr ⟨rfl, rfl⟩) HS.out ?_; (intro K' hK'; go_simp; refine hK' _ ?_; clear hK' K'))
      first | (refine LeftL.run (v := ?_) 12 rfl (by kernel_rfl) rfl (fun _ _ d _ _ h => by cases d <;> exact h) ?_ HS.out ?_; rotate_left; (· intro V hV; obtain ⟨q0, q1, q2, q3, q4, q5, q6, q7⟩ := HFX.out V hV; clear hV; go_simp; rfl); (intro K' hK'; go_simp; refine hK' _ ?_; clear hK' K')) | (refine LeftL.runG (v := ?_) 12 rfl (by kernel_rfl) rfl (fun _ _ d _ _ h => by cases d <;> exact h) ?_ HS.out ?_; rotate_left; (· intro V hV; obtain ⟨q0, q1, q2, q3, q4, q5, q6, q7⟩ := HFX.out V hV; clear hV; go_simp; rfl); (intro K' hK'; go_simp; refine hK' _ ?_; clear hK' K')) | (refine LeftL.take (v := undef) 12 rfl (by kernel_rfl) (fun _ _ d _ _ h => by cases d <;> exact h) (.inr ⟨rfl, rfl⟩) HS.out ?_; (intro K' hK'; go_simp; refine hK' _ ?_; clear hK' K'))
      first | (refine LeftL.run (v := ?_) 13 rfl (by kernel_rfl) rfl (fun _ _ d _ _ h => by cases d <;> exact h) ?_ HS.out ?_; rotate_left; (· intro V hV; obtain ⟨q0, q1, q2, q3, q4, q5, q6, q7⟩ := HFX.out V hV; clear hV; go_simp; rfl); (intro K' hK'; go_simp; refine hK' _ ?_; clear hK' K')) | (refine LeftL.runG (v := ?_) 13 rfl (by kernel_rfl) rfl (fun _ _ d _ _ h => by cases d <;> exact h) ?_ HS.out ?_; rotate_left; (· intro V hV; obtain ⟨q0, q1, q2, q3, q4, q5, q6, q7⟩ := HFX.out V hV; clear hV; go_simp; rfl); (intro K' hK'; go_simp; refine hK' _ ?_; clear hK' K')) | (refine LeftL.take (v := undef) 13 rfl (by kernel_rfl) (fun _ _ d _ _ h => by cases d <;> exact h) (.inr ⟨rfl, rfl⟩) HS.out ?_; (intro K' hK'; go_simp; refine hK' _ ?_; clear hK' K'))
      first | (refine LeftL.run (v := ?_) 14 rfl (by kernel_rfl) rfl (fun _ _ d _ _ h => by cases d <;> exact h) ?_ HS.out ?_; rotate_left; (· intro V hV; obtain ⟨q0, q1, q2, q3, q4, q5, q6, q7⟩ := HFX.out V hV; clear hV; go_simp; rfl); (intro K' hK'; go_simp; refine hK' _ ?_; clear hK' K')) | (refine LeftL.runG (v := ?_) 14 rfl (by kernel_rfl) rfl (fun _ _ d _ _ h => by cases d <;> exact h) ?_ HS.out ?_; rotate_left; (· intro V hV; obtain ⟨q0, q1, q2, q3, q4, q5, q6, q7⟩ := HFX.out V hV; clear hV; go_simp; rfl); (intro K' hK'; go_simp; refine hK' _ ?_; clear hK' K')) | (refine LeftL.take (v := undef) 14 rfl (by kernel_rfl) (fun _ _ d _ _ h => by cases d <;> exact h) (.inr ⟨rfl, rfl⟩) HS.out ?_; (intro K' hK'; go_simp; refine hK' _ ?_; clear hK' K'))
      first | (refine LeftL.run (v := ?_) 15 rfl (by kernel_rfl) rfl (fun _ _ d _ _ h => by cases d <;> exact h) ?_ HS.out ?_; rotate_left; (· intro V hV; obtain ⟨q0, q1, q2, q3, q4, q5, q6, q7⟩ := HFX.out V hV; clear hV; go_simp; rfl); (intro K' hK'; go_simp; refine hK' _ ?_; clear hK' K')) | (refine LeftL.runG (v := ?_) 15 rfl (by kernel_rfl) rfl (fun _ _ d _ _ h => by cases d <;> exact h) ?_ HS.out ?_; rotate_left; (· intro V hV; obtain ⟨q0, q1, q2, q3, q4, q5, q6, q7⟩ := HFX.out V hV; clear hV; go_simp; rfl); (intro K' hK'; go_simp; refine hK' _ ?_; clear hK' K')) | (refine LeftL.take (v := undef) 15 rfl (by kernel_rfl) (fun _ _ d _ _ h => by cases d <;> exact h) (.inr ⟨rfl, rfl⟩) HS.out ?_; (intro K' hK'; go_simp; refine hK' _ ?_; clear hK' K'))
      first | (refine LeftL.run (v := ?_) 16 rfl (by kernel_rfl) rfl (fun _ _ d _ _ h => by cases d <;> exact h) ?_ HS.out ?_; rotate_left; (· intro V hV; obtain ⟨q0, q1, q2, q3, q4, q5, q6, q7⟩ := HFX.out V hV; clear hV; go_simp; rfl); (intro K' hK'; go_simp; refine hK' _ ?_; clear hK' K')) | (refine LeftL.runG (v := ?_) 16 rfl (by kernel_rfl) rfl (fun _ _ d _ _ h => by cases d <;> exact h) ?_ HS.out ?_; rotate_left; (· intro V hV; obtain ⟨q0, q1, q2, q3, q4, q5, q6, q7⟩ := HFX.out V hV; clear hV; go_simp; rfl); (intro K' hK'; go_simp; refine hK' _ ?_; clear hK' K')) | (refine LeftL.take (v := undef) 16 rfl (by kernel_rfl) (fun _ _ d _ _ h => by cases d <;> exact h) (.inr ⟨rfl, rfl⟩) HS.out ?_; (intro K' hK'; go_simp; refine hK' _ ?_; clear hK' K'))
      refine LeftL.one 17 rfl (by kernel_rfl) ?_
      go_wp2_with fail
      refine (takes_any u u.bx u.by_ gx gy _ HUO.out.speed HUO.out.base HGP.out).mono ?_; rintro e w1 ⟨rfl, hf1⟩
      have hS1 := HS.out.call hf1 HS.out.size (by simp)
      clear hf1 HS
      have HS := Lib.hid hS1
      clear hS1
      rw [← HTK.out]
      go_wp2_with fail
      first | refine ⟨fun _ => HS.out, ?_⟩ | refine ⟨HS.out, ?_⟩
      first | (refine LeftL.run (v := ?_) 18 rfl (by kernel_rfl) rfl (fun _ _ d _ _ h => by cases d <;> exact h) ?_ HS.out ?_; rotate_left; (· intro V hV; obtain ⟨q0, q1, q2, q3, q4, q5, q6, q7⟩ := HFX.out V hV; clear hV; go_simp; rfl); (intro K' hK'; go_simp; refine hK' _ ?_; clear hK' K')) | (refine LeftL.runG (v := ?_) 18 rfl (by kernel_rfl) rfl (fun _ _ d _ _ h => by cases d <;> exact h) ?_ HS.out ?_; rotate_left; (· intro V hV; obtain ⟨q0, q1, q2, q3, q4, q5, q6, q7⟩ := HFX.out V hV; clear hV; go_simp; rfl); (intro K' hK'; go_simp; refine hK' _ ?_; clear hK' K')) | (refine LeftL.take (v := undef) 18 rfl (by kernel_rfl) (fun _ _ d _ _ h => by cases d <;> exact h) (.inr ⟨rfl, rfl⟩) HS.out ?_; (intro K' hK'; go_simp; refine hK' _ ?_; clear hK' K'))
      first | (refine LeftL.run (v := ?_) 19 rfl (by kernel_rfl) rfl (fun _ _ d _ _ h => by cases d <;> exact h) ?_ HS.out ?_; rotate_left; (· intro V hV; obtain ⟨q0, q1, q2, q3, q4, q5, q6, q7⟩ := HFX.out V hV; clear hV; go_simp; rfl); (intro K' hK'; go_simp; refine hK' _ ?_; clear hK' K')) | (refine LeftL.runG (v := ?_) 19 rfl (by kernel_rfl) rfl (fun _ _ d _ _ h => by cases d <;> exact h) ?_ HS.out ?_; rotate_left; (· intro V hV; obtain ⟨q0, q1, q2, q3, q4, q5, q6, q7⟩ := HFX.out V hV; clear hV; go_simp; rfl); (intro K' hK'; go_simp; refine hK' _ ?_; clear hK' K')) | (refine LeftL.take (v := undef) 19 rfl (by kernel_rfl) (fun _ _ d _ _ h => by cases d <;> exact h) (.inr ⟨rfl, rfl⟩) HS.out ?_; (intro K' hK'; go_simp; refine hK' _ ?_; clear hK' K'))
      refine LeftL.done (by kernel_rfl) ?_
      go_wp2_with fail
      (try simp only [w2, w3, w4, w5])
      exact ⟨⟨k + 1, by simp, HKL.out, by rw [HNL.out], by rw [HNS.out], HFR.out.call HS.out HFR.out.size (by simp)⟩, meas_up HKL.out⟩
    · have hkl' : ¬ (k : Int) < (G : Int) := by omega
      obtain rfl : k = G := by omega
      clear hk hkl
      have hs1 := HS0.out.frm0 hfr (Nat.le_refl _)
      obtain ⟨lc, hlc⟩ : ∃ x, x = lateN A l k := ⟨_, rfl⟩
      obtain ⟨sc, hsc⟩ : ∃ x, x = sumN A l k := ⟨_, rfl⟩
      have elc : lateC A l = lc := by unfold lateC; rw [HLL.out, hlc]
      have esc : sumC A l = sc := by unfold sumC; rw [HLL.out, hsc]
      rw [← hlc, ← hsc]
      obtain ⟨ov, ow, hw1, hw2, hw3⟩ := hs1.bw
      obtain ⟨swh, sl, ss, sf⟩ := s
      have g0 : wr.cell? ⟨e + 2, 0, none⟩ = some (.bool sf) := hs1.bf.cell 0
      have g1 : wr.cell? ⟨e, 0, none⟩ = some (.int .i64 sl) := hs1.bl.cell 0
      have g2 : wr.cell? ⟨e + 1, 0, none⟩ = some (.int .i64 ss) := hs1.bs.cell 0
      have g3 : wr.cell? ⟨c + 3, 0, none⟩ = some ov := hw1.cell 0
      have z0 := hs1.bf.free 0
      have z1 := hs1.bl.free 0
      have z2 := hs1.bs.free 0
      have z3 := hw1.free 0
      have hce' := HCE.out
      have n1 : c + 3 ≠ e := by omega
      have n2 : c + 3 ≠ e + 1 := by omega
      have n3 : c + 3 ≠ e + 2 := by omega
      -- the choice is taken
      have htake : StAt ((((wr.setCell ⟨c + 3, 0, none⟩ (.slice la k lcap)).setCell ⟨e, 0, none⟩ (.int .i64 lc)).setCell ⟨e + 1, 0, none⟩ (.int .i64 sc)).setCell ⟨e + 2, 0, none⟩ (.bool true)) (c + 3) e (e + 1) (e + 2) ⟨l, lc, sc, true⟩ ∧
          Frm V.heap.size [c + 3, e, e + 1, e + 2] V ((((wr.setCell ⟨c + 3, 0, none⟩ (.slice la k lcap)).setCell ⟨e, 0, none⟩ (.int .i64 lc)).setCell ⟨e + 1, 0, none⟩ (.int .i64 sc)).setCell ⟨e + 2, 0, none⟩ (.bool true)) := by
        have k1 := ((((hs1.bf.other ⟨c + 3, 0, none⟩ n3 (.slice la k lcap)).other ⟨e, 0, none⟩ (by simp) (.int .i64 lc)).other ⟨e + 1, 0, none⟩ (by simp) (.int .i64 sc)).set 0 (.bool true))
        have k2 := ((((hs1.bl.other ⟨c + 3, 0, none⟩ n1 (.slice la k lcap)).set 0 (.int .i64 lc)).other ⟨e + 1, 0, none⟩ (by simp) (.int .i64 sc)).other ⟨e + 2, 0, none⟩ (by simp) (.bool true))
        have k3 := ((((hs1.bs.other ⟨c + 3, 0, none⟩ n2 (.slice la k lcap)).other ⟨e, 0, none⟩ (by simp) (.int .i64 lc)).set 0 (.int .i64 sc)).other ⟨e + 2, 0, none⟩ (by simp) (.bool true))
        have k4 := ((((hw1.set 0 (.slice la k lcap)).other ⟨e, 0, none⟩ n1.symm (.int .i64 lc)).other ⟨e + 1, 0, none⟩ n2.symm (.int .i64 sc)).other ⟨e + 2, 0, none⟩ n3.symm (.bool true))
        have k5 := ((((hfr.narrow (S' := [c + 3, e, e + 1, e + 2]) (by simp)).setCell (p := ⟨c + 3, 0, none⟩) (.inl (by simp)) (.slice la k lcap)).setCell (p := ⟨e, 0, none⟩) (.inl (by simp)) (.int .i64 lc)).setCell (p := ⟨e + 1, 0, none⟩) (.inl (by simp)) (.int .i64 sc)).setCell (p := ⟨e + 2, 0, none⟩) (.inl (by simp)) (.bool true)
        refine ⟨⟨k1, k2, k3, _, own, k4, ?_, fun b hb => ⟨(HOWN.out b hb).1, by have := (HOWN.out b hb).2; omega⟩⟩, k5⟩
        rw [HLL.out]
        exact HSL.out.frm k5 (fun b hb => HSL.out.lt b hb) (fun b hb => (HOWN.out b hb).1)
      have hkeep := And.intro hs1 (hfr.narrow (S' := [c + 3, e, e + 1, e + 2]) (by simp))
      clear hs1 hw1 hw2 hw3 hfr hce'
      have HTAKE := Lib.hid htake
      have HKEEP := Lib.hid hkeep
      have ELC := Lib.hid elc
      have ESC := Lib.hid esc
      clear esc elc hkeep htake
      clear hlc hsc
      cases sf
      · have ht : takesIt A ⟨swh, sl, ss, false⟩ l = true := by simp [takesIt]
        have HTK := Lib.hid ht
        clear ht
        go_wp2_with fail
        go_end0; refine ⟨⟨_, rfl⟩, ?_, HTAKE.out.2⟩; unfold takeS; rw [if_pos HTK.out, ELC.out, ESC.out]; exact HTAKE.out.1
      · by_cases h1 : lc < sl
        · have ht : takesIt A ⟨swh, sl, ss, true⟩ l = true := by unfold takesIt; rw [ELC.out]; simp [h1]
          have HTK := Lib.hid ht
          clear ht
          go_wp2_with fail
          go_end0; refine ⟨⟨_, rfl⟩, ?_, HTAKE.out.2⟩; unfold takeS; rw [if_pos HTK.out, ELC.out, ESC.out]; exact HTAKE.out.1
        · by_cases h2 : lc = sl
          · have h2' : (lc == sl) = true := by simp [h2]
            by_cases h3 : sc < ss
            · have ht : takesIt A ⟨swh, sl, ss, true⟩ l = true := by unfold takesIt; rw [ELC.out, ESC.out]; simp [h2, h3]
              have HTK := Lib.hid ht
              have H2 := Lib.hid h2
              clear h2 ht
              go_wp2_with fail
              go_end0; refine ⟨⟨_, rfl⟩, ?_, HTAKE.out.2⟩; unfold takeS; rw [if_pos HTK.out, ELC.out, ESC.out]; exact HTAKE.out.1
            · have ht : ¬ takesIt A ⟨swh, sl, ss, true⟩ l = true := by unfold takesIt; rw [ELC.out, ESC.out]; simp [h1, h2, h3]
              have HTK := Lib.hid ht
              have H2 := Lib.hid h2
              clear h2 ht
              go_wp2_with fail
              go_end0; refine ⟨⟨_, rfl⟩, ?_, HKEEP.out.2⟩; unfold takeS; rw [if_neg HTK.out]; exact HKEEP.out.1
          · have h2' : (lc == sl) = false := by simp [h2]
            have ht : ¬ takesIt A ⟨swh, sl, ss, true⟩ l = true := by unfold takesIt; rw [ELC.out]; simp [h1, h2]
            have HTK := Lib.hid ht
            have H2 := Lib.hid h2
            clear h2 ht
            go_wp2_with fail
            go_end0; refine ⟨⟨_, rfl⟩, ?_, HKEEP.out.2⟩; unfold takeS; rw [if_neg HTK.out]; exact HKEEP.out.1
end Go.Proofs.YtghkfopcjdkieaaDoor
