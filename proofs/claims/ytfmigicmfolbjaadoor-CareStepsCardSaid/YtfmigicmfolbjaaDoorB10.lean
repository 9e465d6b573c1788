/-
  Texts S15, S16 of this claim, one behind the other.
-/
import Derived.Test.YtfmigicmfolbjaaDoorB9
import Derived.RangeFuncLeaves
namespace Go.Proofs.YtfmigicmfolbjaaDoor
set_option linter.all false
set_option linter.unusedSimpArgs false
set_option linter.unusedVariables false
open Go.RowKit Go.Shelf

def mark1 (r : Nat) : Deferred := { target := .collected r, args := #[] }
structure Marks (B : Nat) (ds : List Deferred) (w : World) : Prop where
  mk ::
  out : ∃ rs : List Nat, ds = rs.map mark1 ∧ rs.Nodup ∧ ∀ r, r ∈ rs → B ≤ r ∧ w.heap[r]? = some (.deferred (some []))
theorem Marks.nil (B : Nat) (w : World) : Marks B [] w := ⟨[], rfl, List.nodup_nil, fun r h => by cases h⟩
theorem Marks.frm {B N : Nat} {S : List Nat} {ds : List Deferred} {w w' : World} (h : Marks B ds w) (hf : Frm N S w w') (hN : w.heap.size ≤ N) (hS : ∀ x, x ∈ S → ∀ r, w.heap[r]? = some (.deferred (some [])) → x ≠ r) : Marks B ds w' := by
  obtain ⟨rs, hd, hn, hr⟩ := h.out
  refine ⟨rs, hd, hn, fun r hm => ⟨(hr r hm).1, ?_⟩⟩
  have h1 := (hr r hm).2
  have hlt : r < w.heap.size := (Array.getElem?_eq_some_iff.1 h1).1
  exact hf.at_ h1 (by omega) (fun hx => hS r hx r h1 rfl)
theorem blk_ne {w : World} {x T r : Nat} {cs : List Value} (h : Blk w x T cs) (hr : w.heap[r]? = some (.deferred (some []))) : x ≠ r := fun e => by
  subst e
  have h2 : w.heap[x]? = some (.cells cs.toArray T (0, 0)) := h
  rw [hr] at h2
  cases h2
theorem Marks.next {B : Nat} {S : List Nat} {ds : List Deferred} {w w' : World} (h : Marks B ds w) (hB : B ≤ w.heap.size) (hf : Frm w.heap.size S w w') (hS : ∀ x, x ∈ S → ∀ r, w.heap[r]? = some (.deferred (some [])) → x ≠ r)
    (hr : w'.heap[w.heap.size]? = some (.deferred (some []))) : Marks B (mark1 w.heap.size :: ds) w' := by
  obtain ⟨rs, hd, hn, hh⟩ := h.out
  have hlt : ∀ r, r ∈ rs → r < w.heap.size := fun r hm => (Array.getElem?_eq_some_iff.1 (hh r hm).2).1
  refine ⟨w.heap.size :: rs, by rw [hd]; rfl, List.nodup_cons.2 ⟨fun hm => by have := hlt _ hm; omega, hn⟩, fun r hm => ?_⟩
  rcases List.mem_cons.1 hm with rfl | hm
  · exact ⟨hB, hr⟩
  · exact ⟨(hh r hm).1, hf.at_ (hh r hm).2 (hlt r hm) (fun hx => hS r hx r (hh r hm).2 rfl)⟩
/-- The frame is left: the marks are taken. -/
theorem leaves_marks {F : Fence} {n B : Nat} {P : Program} {fn : Func} {tmps : Array Value} {R : Ending → World → Prop} {ds : List Deferred} {w : World} (h : Marks B ds w)
    (hq : ∀ w', (∀ b T cs, Blk w b T cs → Blk w' b T cs) → Frm B [] w w' → LeavesInM F n P fn tmps R [] .returning w') : LeavesInM F n P fn tmps R ds .returning w := by
  obtain ⟨rs, hd, hn, hh⟩ := h.out
  rw [hd]
  clear h hd
  induction rs generalizing w with
  | nil => exact hq w (fun _ _ _ h => h) (Frm.refl _ _ _)
  | cons r rs ih =>
    refine ⟨by simp, .inl ⟨r, _, rfl, run_takeDeferred (hh r (by simp)).2, ?_⟩⟩
    refine ih (fun w' hb hf => hq w' (fun b T cs h => hb b T cs ((World.putObj_heap_other (blk_ne h (hh r (by simp)).2)).trans h)) (((Frm.refl B [] w).putObj (.inr (hh r (by simp)).1) _).trans hf)) (List.nodup_cons.1 hn).2 (fun x hx => ⟨(hh x (by simp [hx])).1, ?_⟩)
    exact (World.putObj_heap_other (fun e => by subst e; exact (List.nodup_cons.1 hn).1 hx)).trans (hh x (by simp [hx])).2
end Go.Proofs.YtfmigicmfolbjaaDoor

namespace Go.Proofs.YtfmigicmfolbjaaDoor
set_option linter.all false
set_option linter.unusedSimpArgs false
set_option linter.unusedVariables false
open Go.RowKit Go.Shelf

/-- The loops of a code, one behind the other. -/
def loopsOf : Code → List Code
  | .loop c => [c]
  | .seq a b => loopsOf a ++ loopsOf b
  | .block _ c => loopsOf c
  | .scope c => loopsOf c
  | .cond _ a b => loopsOf a ++ loopsOf b
  | _ => []
noncomputable def loopOf (c : Option Code) (k : Nat) : Code := ((c.map loopsOf).getD []).getD k .skip
/-- No panic comes. -/
def NoP (Q : Exit → Act → World → Prop) : Exit → Act → World → Prop
  | .panic _, _, _ => False
  | e, a, w => Q e a w
theorem NoP.out {Q : Exit → Act → World → Prop} (e : Exit) (a : Act) (w : World) (h : NoP Q e a w) : Q e a w := by
  cases e <;> first | exact h | exact h.elim
/-- Where a list of integers lies. -/
structure LI where
  ad : Option Addr
  b : Nat
  off : Nat
  cap : Nat
def LI.v (x : LI) (l : List Int) : Value := .slice x.ad l.length x.cap
def IntsAt (w : World) (x : LI) (l : List Int) : Prop := RwI w x.ad x.b x.off l.length fun i => l.getD i 0
structure SI where
  need : LI
  add : LI
  ends : LI
def rs0 : RS := ⟨[], [], []⟩
def stepC (x : SI) (r : RS) : List Value := [x.need.v r.need, x.add.v r.add, x.ends.v r.ends]
structure StepAt (w : World) (x : SI) (r : RS) : Prop where
  need : IntsAt w x.need r.need
  add : IntsAt w x.add r.add
  ends : IntsAt w x.ends r.ends
structure StepsAt (w : World) (ad : Option Addr) (b off : Nat) (X : Nat → SI) (R : List RS) : Prop where
  row : Rw w 3 ad b off R.length fun i => stepC (X i) (R.getD i rs0)
  each : ∀ i, i < R.length → StepAt w (X i) (R.getD i rs0)
theorem StepAt.frm {w w' : World} {B : Nat} {x : SI} {r : RS} (h : StepAt w x r) (hf : Frm B [] w w') (hB : w.heap.size ≤ B) : StepAt w' x r :=
  ⟨Rw.frm h.need hf hB, Rw.frm h.add hf hB, Rw.frm h.ends hf hB⟩
theorem StepsAt.frm {w w' : World} {B b off : Nat} {ad : Option Addr} {X : Nat → SI} {R : List RS} (h : StepsAt w ad b off X R) (hf : Frm B [] w w') (hB : w.heap.size ≤ B) : StepsAt w' ad b off X R :=
  ⟨h.row.frm hf hB, fun i hi => (h.each i hi).frm hf hB⟩
theorem info75 : (Tryd.prog.info? 75).map (fun i => i.size) = some 3 := by kernel_rfl
theorem numbers_l (x : LI) (l : List Int) (w : World) (h : IntsAt w x l) : Calls Tryd.prog 99 #[x.v l] w fun e w' => e = .returned (.tuple #[.int .u32 (((numL l).getD 0 : Nat) : Int), .bool (numL l).isSome]) ∧ Frm w.heap.size [] w w' :=
  (numbers_any x.ad x.b x.off l.length x.cap _ w h).mono fun e w' h => by
    refine ⟨?_, h.2⟩
    have h1 := h.1
    unfold NumbersIs at h1
    unfold numL
    split at h1
    · rename_i h2; rw [h2, h1]; rfl
    · rename_i s l' h2; rw [h2, h1]; rfl
def tripleOf (r : RS) : Nat × Nat × Nat := (stepO r).getD (0, 0, 0)
def actC (t : Nat × Nat × Nat) : List Value := [.int .u32 (t.1 : Int), .int .u32 (t.2.1 : Int), .int .u32 (t.2.2 : Int)]
def actsF (R : List RS) (i : Nat) : List Value := actC (tripleOf (R.getD i rs0))
theorem actsF_len (R : List RS) (i : Nat) : (actsF R i).length = 3 := rfl
theorem acts_succ (R : List RS) (k : Nat) : (List.range (k + 1)).flatMap (actsF R) = (List.range k).flatMap (actsF R) ++ actsF R k := by
  rw [List.range_succ, List.flatMap_append]; simp
theorem acts_one (t : Nat × Nat × Nat) : ∀ u, u ∈ actC t → u.oneCell' = true := by
  intro u hu
  simp only [actC, List.mem_cons, List.not_mem_nil, or_false] at hu
  rcases hu with rfl | rfl | rfl <;> rfl
theorem stepO_some {r : RS} {a b c : Nat} (h1 : numL r.need = some a) (h2 : numL r.add = some b) (h3 : numL r.ends = some c) (h : b &&& c = 0) : stepO r = some (a, b, c) := by
  unfold stepO; rw [h1, h2, h3]; exact if_pos h
theorem stepO_both {r : RS} {a b c : Nat} (h1 : numL r.need = some a) (h2 : numL r.add = some b) (h3 : numL r.ends = some c) (h : b &&& c ≠ 0) : stepO r = none := by
  unfold stepO; rw [h1, h2, h3]; exact if_neg h
theorem stepO_n1 {r : RS} (h : numL r.need = none) : stepO r = none := by unfold stepO; rw [h]
theorem stepO_n2 {r : RS} (h : numL r.add = none) : stepO r = none := by unfold stepO; rw [h]; cases numL r.need <;> rfl
theorem stepO_n3 {r : RS} (h : numL r.ends = none) : stepO r = none := by unfold stepO; rw [h]; cases numL r.need <;> cases numL r.add <;> rfl
theorem steps_all : ∀ {R : List RS}, (∀ i, i < R.length → (stepO (R.getD i rs0)).isSome = true) → stepsO R = some (R.map tripleOf)
  | [], _ => rfl
  | r :: R, h => by
    have h0 : (stepO r).isSome = true := h 0 (by simp)
    have h1 := steps_all (R := R) fun i hi => h (i + 1) (by simpa using hi)
    obtain ⟨x, hx⟩ := Option.isSome_iff_exists.1 h0
    unfold stepsO
    rw [hx, h1]
    simp [tripleOf, hx]
theorem steps_none : ∀ {R : List RS} {i : Nat}, i < R.length → stepO (R.getD i rs0) = none → stepsO R = none
  | [], i, hi, _ => by simp at hi
  | r :: R, 0, _, h => by
    have h : stepO r = none := h
    unfold stepsO; rw [h]
  | r :: R, i + 1, hi, h => by
    have h1 := steps_none (R := R) (i := i) (by simpa using hi) h
    unfold stepsO; rw [h1]; cases stepO r <;> rfl
set_option maxRecDepth 100000 in
set_option maxHeartbeats 16000000 in
theorem steps_loop (R : List RS) (X : Nat → SI) (sa : Option Addr) (sb so sc n p7 pb st : Nat) (v2 v3 : Value) (hn : n = R.length) (hn12 : n ≤ 12) (w0 wz : World) (hw0 : Frm w0.heap.size [] w0 wz) (hst : StepsAt w0 sa sb so X R)
    (hp7 : Blk wz p7 108 [.pointer (some ⟨pb, 0, none⟩)]) (hpb : Blk wz pb 116 [.int .u32 (st : Int), .slice none 0 0, v2, v3]) (hwp : w0.heap.size ≤ pb) (hpp : w0.heap.size ≤ p7) (hne : p7 ≠ pb)
    (x0 x1 x2 x3 x4 x5 x6 x8 x9 x10 x11 x12 x13 x14 x15 x16 x17 x18 x19 x20 x21 x22 x23 x24 x25 x26 x27 x28 x29 x30 x31 x32 x33 x34 x35 x36 x37 x38 x39 x40 x41 x42 x43 x44 x45 x46 x47 x48 x49 x53 x54 x55 x56 x57 x58 x59 x60 x61 x62 x63 x64 x65 x66 x67 x68 x69 x70 x71 x72 x73 x74 x75 x76 x77 x78 x79 x80 x81 x82 x83 x84 x85 x86 x87 x88 x89 x90 x91 x92 x93 x94 x95 x96 x97 x98 x99 x100 x101 x102 x103 x104 x105 x106 x107 x108 x109 x110 x111 x112 x113 x114 x115 x116 x117 x118 x119 x120 x121 x122 x123 x124 x125 x126 x127 x128 x129 x130 x131 x132 x133 x134 x135 x136 x137 x138 x139 x140 x141 x142 x143 x144 x145 x146 x147 x148 x149 x150 x151 x152 x153 x154 x155 x156 x157 x158 x159 x160 x161 x162 x163 x164 x165 x166 x167 x168 x169 x170 x171 x172 x173 x174 x175 x176 x177 x178 : Value) (Q0 : Exit → Act → World → Prop)
    (hno : stepsO R = none → ∀ (u9 u10 u11 u12 u13 u14 u15 u52 u53 u54 u55 u56 u57 u58 u59 u60 u61 u62 u63 u64 u65 u66 u67 u68 u69 u70 u71 u72 u73 u74 u75 u76 u77 u78 u79 u80 u81 u82 u83 u84 u85 u86 u87 u88 u89 u90 u91 u92 u93 u94 u95 u96 u97 u98 u99 u100 u101 u102 u103 : Value) (w' : World), Frm w0.heap.size [] w0 w' → Q0 .ret ⟨(List.toArray (x0 :: x1 :: .pointer none :: .bool false :: x4 :: x5 :: x6 :: .pointer (some ⟨p7, 0, none⟩) :: x8 :: u9 :: u10 :: u11 :: u12 :: u13 :: u14 :: u15 :: x16 :: x17 :: x18 :: x19 :: x20 :: x21 :: x22 :: x23 :: x24 :: x25 :: x26 :: x27 :: x28 :: x29 :: x30 :: x31 :: x32 :: x33 :: x34 :: x35 :: x36 :: x37 :: x38 :: x39 :: x40 :: x41 :: x42 :: x43 :: x44 :: x45 :: x46 :: x47 :: x48 :: x49 :: .slice sa n sc :: .int .i64 n :: u52 :: u53 :: u54 :: u55 :: u56 :: u57 :: u58 :: u59 :: u60 :: u61 :: u62 :: u63 :: u64 :: u65 :: u66 :: u67 :: u68 :: u69 :: u70 :: u71 :: u72 :: u73 :: u74 :: u75 :: u76 :: u77 :: u78 :: u79 :: u80 :: u81 :: u82 :: u83 :: u84 :: u85 :: u86 :: u87 :: u88 :: u89 :: u90 :: u91 :: u92 :: u93 :: u94 :: u95 :: u96 :: u97 :: u98 :: u99 :: u100 :: u101 :: u102 :: u103 :: x104 :: x105 :: x106 :: x107 :: x108 :: x109 :: x110 :: x111 :: x112 :: x113 :: x114 :: x115 :: x116 :: x117 :: x118 :: x119 :: x120 :: x121 :: x122 :: x123 :: x124 :: x125 :: x126 :: x127 :: x128 :: x129 :: x130 :: x131 :: x132 :: x133 :: x134 :: x135 :: x136 :: x137 :: x138 :: x139 :: x140 :: x141 :: x142 :: x143 :: x144 :: x145 :: x146 :: x147 :: x148 :: x149 :: x150 :: x151 :: x152 :: x153 :: x154 :: x155 :: x156 :: x157 :: x158 :: x159 :: x160 :: x161 :: x162 :: x163 :: x164 :: x165 :: x166 :: x167 :: x168 :: x169 :: x170 :: x171 :: x172 :: x173 :: x174 :: x175 :: x176 :: x177 :: x178 :: [])), []⟩ w')
    (hex : stepsO R = some (R.map tripleOf) → ∀ (u2 u3 u9 u10 u11 u12 u13 u14 u15 u52 u53 u54 u55 u56 u57 u58 u59 u60 u61 u62 u63 u64 u65 u66 u67 u68 u69 u70 u71 u72 u73 u74 u75 u76 u77 u78 u79 u80 u81 u82 u83 u84 u85 u86 u87 u88 u89 u90 u91 u92 u93 u94 u95 u96 u97 u98 u99 u100 u101 u102 u103 : Value) (w' : World) (a1 : Option Addr) (c1 : Nat) (own : Option Nat), Frm wz.heap.size [pb] wz w' → Blk w' pb 116 [.int .u32 (st : Int), .slice a1 n c1, v2, v3] → Sl w' 118 3 (.slice a1 n c1) n ((List.range n).flatMap (actsF R)) own → (∀ b, own = some b → wz.heap.size ≤ b) →
      Q0 (.exit 0) ⟨(List.toArray (x0 :: x1 :: u2 :: u3 :: x4 :: x5 :: x6 :: .pointer (some ⟨p7, 0, none⟩) :: x8 :: u9 :: u10 :: u11 :: u12 :: u13 :: u14 :: u15 :: x16 :: x17 :: x18 :: x19 :: x20 :: x21 :: x22 :: x23 :: x24 :: x25 :: x26 :: x27 :: x28 :: x29 :: x30 :: x31 :: x32 :: x33 :: x34 :: x35 :: x36 :: x37 :: x38 :: x39 :: x40 :: x41 :: x42 :: x43 :: x44 :: x45 :: x46 :: x47 :: x48 :: x49 :: .slice sa n sc :: .int .i64 n :: u52 :: u53 :: u54 :: u55 :: u56 :: u57 :: u58 :: u59 :: u60 :: u61 :: u62 :: u63 :: u64 :: u65 :: u66 :: u67 :: u68 :: u69 :: u70 :: u71 :: u72 :: u73 :: u74 :: u75 :: u76 :: u77 :: u78 :: u79 :: u80 :: u81 :: u82 :: u83 :: u84 :: u85 :: u86 :: u87 :: u88 :: u89 :: u90 :: u91 :: u92 :: u93 :: u94 :: u95 :: u96 :: u97 :: u98 :: u99 :: u100 :: u101 :: u102 :: u103 :: x104 :: x105 :: x106 :: x107 :: x108 :: x109 :: x110 :: x111 :: x112 :: x113 :: x114 :: x115 :: x116 :: x117 :: x118 :: x119 :: x120 :: x121 :: x122 :: x123 :: x124 :: x125 :: x126 :: x127 :: x128 :: x129 :: x130 :: x131 :: x132 :: x133 :: x134 :: x135 :: x136 :: x137 :: x138 :: x139 :: x140 :: x141 :: x142 :: x143 :: x144 :: x145 :: x146 :: x147 :: x148 :: x149 :: x150 :: x151 :: x152 :: x153 :: x154 :: x155 :: x156 :: x157 :: x158 :: x159 :: x160 :: x161 :: x162 :: x163 :: x164 :: x165 :: x166 :: x167 :: x168 :: x169 :: x170 :: x171 :: x172 :: x173 :: x174 :: x175 :: x176 :: x177 :: x178 :: [])), []⟩ w') :
    Code.wp Tryd.prog (Code.loop (loopOf Tryd.f68.body 0)) (NoP Q0) ⟨(List.toArray (x0 :: x1 :: x2 :: x3 :: x4 :: x5 :: x6 :: .pointer (some ⟨p7, 0, none⟩) :: x8 :: x9 :: x10 :: x11 :: x12 :: x13 :: x14 :: x15 :: x16 :: x17 :: x18 :: x19 :: x20 :: x21 :: x22 :: x23 :: x24 :: x25 :: x26 :: x27 :: x28 :: x29 :: x30 :: x31 :: x32 :: x33 :: x34 :: x35 :: x36 :: x37 :: x38 :: x39 :: x40 :: x41 :: x42 :: x43 :: x44 :: x45 :: x46 :: x47 :: x48 :: x49 :: .slice sa n sc :: .int .i64 n :: .int .i64 0 :: x53 :: x54 :: x55 :: x56 :: x57 :: x58 :: x59 :: x60 :: x61 :: x62 :: x63 :: x64 :: x65 :: x66 :: x67 :: x68 :: x69 :: x70 :: x71 :: x72 :: x73 :: x74 :: x75 :: x76 :: x77 :: x78 :: x79 :: x80 :: x81 :: x82 :: x83 :: x84 :: x85 :: x86 :: x87 :: x88 :: x89 :: x90 :: x91 :: x92 :: x93 :: x94 :: x95 :: x96 :: x97 :: x98 :: x99 :: x100 :: x101 :: x102 :: x103 :: x104 :: x105 :: x106 :: x107 :: x108 :: x109 :: x110 :: x111 :: x112 :: x113 :: x114 :: x115 :: x116 :: x117 :: x118 :: x119 :: x120 :: x121 :: x122 :: x123 :: x124 :: x125 :: x126 :: x127 :: x128 :: x129 :: x130 :: x131 :: x132 :: x133 :: x134 :: x135 :: x136 :: x137 :: x138 :: x139 :: x140 :: x141 :: x142 :: x143 :: x144 :: x145 :: x146 :: x147 :: x148 :: x149 :: x150 :: x151 :: x152 :: x153 :: x154 :: x155 :: x156 :: x157 :: x158 :: x159 :: x160 :: x161 :: x162 :: x163 :: x164 :: x165 :: x166 :: x167 :: x168 :: x169 :: x170 :: x171 :: x172 :: x173 :: x174 :: x175 :: x176 :: x177 :: x178 :: [])), []⟩ wz := by
  have hf0 := Tryd.func68
  clear hf0
  have hpz : pb < wz.heap.size := hpb.lt
  have hp7z : p7 < wz.heap.size := hp7.lt
  have hlen : n ≤ maxLen := by unfold maxLen; omega
  obtain ⟨i0, hi0⟩ : ∃ i0, Tryd.prog.info? 118 = some i0 := ⟨_, rfl⟩
  have hzz : i0.zero = some (.agg #[.int .u32 0, .int .u32 0, .int .u32 0]) ∧ i0.size = 3 ∧ i0.bytes = 12 := by cases hi0; exact ⟨rfl, rfl, rfl⟩
  obtain ⟨hz0, hz1, hz2⟩ := hzz
  have HN := Lib.hid hn
  have HN12 := Lib.hid hn12
  have HW0 := Lib.hid hw0
  have HST := Lib.hid hst
  have HP7 := Lib.hid hp7
  have HPB := Lib.hid hpb
  have HWP := Lib.hid hwp
  have HPP := Lib.hid hpp
  have HNE := Lib.hid hne
  have HNO := Lib.hid hno
  have HEX := Lib.hid hex
  have HPZ := Lib.hid hpz
  have HP7Z := Lib.hid hp7z
  have HLEN := Lib.hid hlen
  have HI0 := Lib.hid hi0
  have HZ0 := Lib.hid hz0
  have HZ1 := Lib.hid hz1
  have HZ2 := Lib.hid hz2
  clear hz2 hz1 hz0 hi0 hlen hp7z hpz hex hno hne hpp hwp hpb hp7 hst hw0 hn12 hn
  conv => arg 2; arg 1; whnf
  go_loopw [52] (fun s52 wr => ∃ k : Nat, s52 = .int .i64 k ∧ k ≤ n ∧ (∀ i, i < k → (stepO (R.getD i rs0)).isSome = true) ∧ Frm wz.heap.size [pb] wz wr ∧ ∃ (a1 : Option Addr) (c1 : Nat) (own : Option Nat), Blk wr pb 116 [.int .u32 (st : Int), .slice a1 k c1, v2, v3] ∧ Sl wr 118 3 (.slice a1 k c1) k ((List.range k).flatMap (actsF R)) own ∧ ∀ b, own = some b → wz.heap.size ≤ b) (fun s52 _ => n - (intOf s52).toNat)
  case atStart => exact ⟨0, rfl, Nat.zero_le _, fun i hi => by omega, Frm.refl _ _ _, none, 0, none, HPB.out, Sl.nil _ _ _, fun b hb => by cases hb⟩
  case round =>
    obtain ⟨k, rfl, hk, hall, hfr, a1, c1, own, hbr, hsl, hown⟩ := hrel
    have hfw : Frm w0.heap.size [] w0 wr := HW0.out.call hfr HW0.out.size (fun x hx hm => by simp at hm; have := HWP.out; omega)
    have h7r := hfr.blk HP7.out HP7Z.out (by simpa using HNE.out)
    by_cases hkn : k < n
    · have hkn' : (k : Int) < (n : Int) := by omega
      have hkR : k < R.length := by have := HN.out; omega
      obtain ⟨w4x, w5x⟩ := wrapUp hkn HLEN.out
      have hms := meas_up hkn
      obtain ⟨r, hr⟩ : ∃ r, r = R.getD k rs0 := ⟨_, rfl⟩
      obtain ⟨x, hx⟩ : ∃ x, x = X k := ⟨_, rfl⟩
      have hst := HST.out.frm hfw (Nat.le_refl _)
      have had := hst.row.ad (by omega)
      subst had
      have hlo : (loadVar 75 ⟨sb, so + k * 3, none⟩).run Tryd.prog wr = .ok (.agg (stepC x r).toArray) wr := by
        rw [hx, hr]
        exact hst.row.load (P := Tryd.prog) Tryd.underlying75 rfl hkR info75
      have hea : StepAt w0 x r := by rw [hx, hr]; exact HST.out.each k hkR
      clear hst
      have hown' : ∀ b, own = some b → b ≠ pb ∧ b < wr.heap.size := fun b hb => ⟨by have := hown b hb; have := HPZ.out; omega, hsl.lt b hb⟩
      have HALL := Lib.hid hall
      have HFR := Lib.hid hfr
      have HBR := Lib.hid hbr
      have HSL := Lib.hid hsl
      have HOWN := Lib.hid hown
      have HFW := Lib.hid hfw
      have H7R := Lib.hid h7r
      have HKN := Lib.hid hkn
      have HKR := Lib.hid hkR
      have HMS := Lib.hid hms
      have HR := Lib.hid hr
      have HX := Lib.hid hx
      have HLO := Lib.hid hlo
      have HEA := Lib.hid hea
      have HOWN2 := Lib.hid hown'
      clear hown' hea hlo hx hr hms hkR hkn h7r hfw hown hsl hbr hfr hall
      go_wp2_with (first | (with_reducible refine atLoad 75 rfl ?_; refine wpList_loadE rfl rfl rfl HLO.out ?_) | (with_reducible refine atStore 75 rfl ?_; refine stop_ ?_))
      refine go_on ?_
      refine wpList_storeNew (P := Tryd.prog) (cs := stepC x r) rfl rfl rfl rfl rfl info75 (by simp [stepC, LI.v, Value.oneCell']) ?_
      intro V1 hf1 k1 hz1
      obtain ⟨q, hq⟩ : ∃ q, q = wr.heap.size := ⟨_, rfl⟩
      have hfV : Frm w0.heap.size [] w0 V1 := HFW.out.call hf1 HFW.out.size (by simp)
      have hfz := HFR.out.call hf1 HFR.out.size (by simp)
      have hbV := hf1.blk HBR.out HBR.out.lt (by simp)
      have h7V := hf1.blk H7R.out H7R.out.lt (by simp)
      have hsV := HSL.out.frm hf1 (fun b hb => HSL.out.lt b hb) (by simp)
      have hqV : q < V1.heap.size := by rw [hq]; exact k1.lt
      have hqpb : q ≠ pb := fun e => by have := HBR.out.lt; omega
      have hqown : ∀ b, own = some b → b ≠ q := fun b hb => by have := (HOWN2.out b hb).2; omega
      rw [← hq] at k1 ⊢
      have c0 : V1.cell? ⟨q, 0, none⟩ = some (x.need.v r.need) := k1.cell 0
      clear hf1 hz1 hq HFW HFR HBR H7R HSL HLO
      have K1 := Lib.hid k1
      have HFW := Lib.hid hfV
      have HFR := Lib.hid hfz
      have HBR := Lib.hid hbV
      have H7R := Lib.hid h7V
      have HSL := Lib.hid hsV
      have HQV := Lib.hid hqV
      have HQPB := Lib.hid hqpb
      have HQOWN := Lib.hid hqown
      clear hqown hqpb hqV hsV h7V hbV hfz hfV k1
      go_wp2_with fail
      refine (numbers_l x.need r.need _ (Rw.frm HEA.out.need HFW.out (Nat.le_refl _))).mono ?_; rintro e V2 ⟨rfl, hf1⟩
      have hfV : Frm w0.heap.size [] w0 V2 := HFW.out.call hf1 HFW.out.size (by simp)
      have hfz := HFR.out.call hf1 HFR.out.size (by simp)
      have hbV := hf1.blk HBR.out HBR.out.lt (by simp)
      have h7V := hf1.blk H7R.out H7R.out.lt (by simp)
      have hsV := HSL.out.frm hf1 (fun b hb => HSL.out.lt b hb) (by simp)
      have k1 := hf1.blk K1.out HQV.out (by simp)
      have hqV := Nat.lt_of_lt_of_le HQV.out hf1.size
      clear hf1 HFW HFR HBR H7R HSL K1 HQV
      have K1 := Lib.hid k1
      have HFW := Lib.hid hfV
      have HFR := Lib.hid hfz
      have HBR := Lib.hid hbV
      have H7R := Lib.hid h7V
      have HSL := Lib.hid hsV
      have HQV := Lib.hid hqV
      clear hqV hsV h7V hbV hfz hfV k1
      have c1 : V2.cell? ⟨q, 1, none⟩ = some (x.add.v r.add) := K1.out.cell 1
      clear c0
      obtain ⟨n1, hn1⟩ : ∃ y, y = numL r.need := ⟨_, rfl⟩
      rw [← hn1]
      have HN1 := Lib.hid hn1
      clear hn1
      go_wp2_with fail
      refine (numbers_l x.add r.add _ (Rw.frm HEA.out.add HFW.out (Nat.le_refl _))).mono ?_; rintro e V3 ⟨rfl, hf1⟩
      have hfV : Frm w0.heap.size [] w0 V3 := HFW.out.call hf1 HFW.out.size (by simp)
      have hfz := HFR.out.call hf1 HFR.out.size (by simp)
      have hbV := hf1.blk HBR.out HBR.out.lt (by simp)
      have h7V := hf1.blk H7R.out H7R.out.lt (by simp)
      have hsV := HSL.out.frm hf1 (fun b hb => HSL.out.lt b hb) (by simp)
      have k1 := hf1.blk K1.out HQV.out (by simp)
      have hqV := Nat.lt_of_lt_of_le HQV.out hf1.size
      clear hf1 HFW HFR HBR H7R HSL K1 HQV
      have K1 := Lib.hid k1
      have HFW := Lib.hid hfV
      have HFR := Lib.hid hfz
      have HBR := Lib.hid hbV
      have H7R := Lib.hid h7V
      have HSL := Lib.hid hsV
      have HQV := Lib.hid hqV
      clear hqV hsV h7V hbV hfz hfV k1
      have c2 : V3.cell? ⟨q, 2, none⟩ = some (x.ends.v r.ends) := K1.out.cell 2
      clear c1
      obtain ⟨n2, hn2⟩ : ∃ y, y = numL r.add := ⟨_, rfl⟩
      rw [← hn2]
      have HN2 := Lib.hid hn2
      clear hn2
      go_wp2_with fail
      refine (numbers_l x.ends r.ends _ (Rw.frm HEA.out.ends HFW.out (Nat.le_refl _))).mono ?_; rintro e V4 ⟨rfl, hf1⟩
      have hfV : Frm w0.heap.size [] w0 V4 := HFW.out.call hf1 HFW.out.size (by simp)
      have hfz := HFR.out.call hf1 HFR.out.size (by simp)
      have hbV := hf1.blk HBR.out HBR.out.lt (by simp)
      have h7V := hf1.blk H7R.out H7R.out.lt (by simp)
      have hsV := HSL.out.frm hf1 (fun b hb => HSL.out.lt b hb) (by simp)
      have k1 := hf1.blk K1.out HQV.out (by simp)
      have hqV := Nat.lt_of_lt_of_le HQV.out hf1.size
      clear hf1 HFW HFR HBR H7R HSL K1 HQV
      have K1 := Lib.hid k1
      have HFW := Lib.hid hfV
      have HFR := Lib.hid hfz
      have HBR := Lib.hid hbV
      have H7R := Lib.hid h7V
      have HSL := Lib.hid hsV
      have HQV := Lib.hid hqV
      clear hqV hsV h7V hbV hfz hfV k1
      obtain ⟨n3, hn3⟩ : ∃ y, y = numL r.ends := ⟨_, rfl⟩
      rw [← hn3]
      clear c2
      have HN3 := Lib.hid hn3
      clear hn3
      cases n1 with
      | none =>
        have hso : stepsO R = none := steps_none HKR.out (by rw [← HR.out]; exact stepO_n1 HN1.out.symm)
        have HSO := Lib.hid hso
        clear hso
        go_wp2_with fail
        exact HNO.out HSO.out _ _ _ _ _ _ _ _ _ _ _ _ _ _ _ _ _ _ _ _ _ _ _ _ _ _ _ _ _ _ _ _ _ _ _ _ _ _ _ _ _ _ _ _ _ _ _ _ _ _ _ _ _ _ _ _ _ _ _ V4 HFW.out
      | some a =>
      cases n2 with
      | none =>
        have hso : stepsO R = none := steps_none HKR.out (by rw [← HR.out]; exact stepO_n2 HN2.out.symm)
        have HSO := Lib.hid hso
        clear hso
        go_wp2_with fail
        exact HNO.out HSO.out _ _ _ _ _ _ _ _ _ _ _ _ _ _ _ _ _ _ _ _ _ _ _ _ _ _ _ _ _ _ _ _ _ _ _ _ _ _ _ _ _ _ _ _ _ _ _ _ _ _ _ _ _ _ _ _ _ _ _ V4 HFW.out
      | some b =>
      cases n3 with
      | none =>
        have hso : stepsO R = none := steps_none HKR.out (by rw [← HR.out]; exact stepO_n3 HN3.out.symm)
        have HSO := Lib.hid hso
        clear hso
        go_wp2_with fail
        exact HNO.out HSO.out _ _ _ _ _ _ _ _ _ _ _ _ _ _ _ _ _ _ _ _ _ _ _ _ _ _ _ _ _ _ _ _ _ _ _ _ _ _ _ _ _ _ _ _ _ _ _ _ _ _ _ _ _ _ _ _ _ _ _ V4 HFW.out
      | some c =>
      have hb16 := numL_lt HN2.out.symm
      have hc16 := numL_lt HN3.out.symm
      have hand : bits BinOp.and IntKind.u32 (b : Int) (c : Int) = ((b &&& c : Nat) : Int) := and_u32 (by omega) (by omega)
      by_cases hbc : b &&& c = 0
      rotate_left
      · have hso : stepsO R = none := steps_none HKR.out (by rw [← HR.out]; exact stepO_both HN1.out.symm HN2.out.symm HN3.out.symm hbc)
        have hbc1 : (((b &&& c : Nat) : Int) != 0) = true := by simp; omega
        have hbc2 : (((b &&& c : Nat) : Int) == 0) = false := by simp; omega
        have hbc3 : ¬ ((b &&& c : Nat) : Int) = 0 := by omega
        have HSO := Lib.hid hso
        have HB16 := Lib.hid hb16
        have HC16 := Lib.hid hc16
        clear hc16 hb16 hso
        go_wp2_with fail
        exact HNO.out HSO.out _ _ _ _ _ _ _ _ _ _ _ _ _ _ _ _ _ _ _ _ _ _ _ _ _ _ _ _ _ _ _ _ _ _ _ _ _ _ _ _ _ _ _ _ _ _ _ _ _ _ _ _ _ _ _ _ _ _ _ V4 HFW.out
      have hstep : stepO r = some (a, b, c) := stepO_some HN1.out.symm HN2.out.symm HN3.out.symm hbc
      rw [hbc] at hand
      have hnx : actsF R k = actC (a, b, c) := by unfold actsF tripleOf; rw [← HR.out, hstep]; rfl
      have hall2 : ∀ i, i < k + 1 → (stepO (R.getD i rs0)).isSome = true := fun i hi => by
        rcases Nat.lt_or_ge i k with h | h
        · exact HALL.out i h
        · obtain rfl : i = k := by omega
          rw [← HR.out, hstep]; rfl
      have HB16 := Lib.hid hb16
      have HC16 := Lib.hid hc16
      have HBC := Lib.hid hbc
      have HSTEP := Lib.hid hstep
      have HNX := Lib.hid hnx
      have HALL2 := Lib.hid hall2
      clear hall2 hnx hstep hbc hc16 hb16
      go_upto_region 14 with fail
      have hfx : ∀ V, Blk V p7 108 [.pointer (some ⟨pb, 0, none⟩)] ∧ Blk V pb 116 [.int .u32 (st : Int), .slice a1 k c1, v2, v3] → V.cell? ⟨p7, 0, none⟩ = some (.pointer (some ⟨pb, 0, none⟩)) ∧ V.cell? ⟨pb, 1, none⟩ = some (.slice a1 k c1) ∧ V.frozen? ⟨pb, 1, none⟩ = false := fun V hV => ⟨hV.1.cell 0, hV.2.cell 1, hV.2.free 1⟩
      have hS : Blk V4.drew p7 108 [.pointer (some ⟨pb, 0, none⟩)] ∧ Blk V4.drew pb 116 [.int .u32 (st : Int), .slice a1 k c1, v2, v3] := ⟨H7R.out, HBR.out⟩
      refine wp_region_leftL (fun V => Blk V p7 108 [.pointer (some ⟨pb, 0, none⟩)] ∧ Blk V pb 116 [.int .u32 (st : Int), .slice a1 k c1, v2, v3]) 13 (by kernel_rfl) ?_
      have HFX := Lib.hid hfx
      have HS := Lib.hid hS
      clear hS hfx
      first | ((first | refine LeftL.tkF (v := ?_) 0 rfl HS.out ?_ ?_ | refine LeftL.tkG (v := ?_) 0 rfl HS.out ?_ ?_); rotate_left; (· intro V hV; obtain ⟨q0, q1, q2⟩ := HFX.out V hV; clear hV; go_simp; rfl)) | refine LeftL.tkN 0 rfl HS.out ?_
      (intro K' hK'; go_simp; refine hK' _ ?_; clear hK' K')
      first | ((first | refine LeftL.tkF (v := ?_) 1 rfl HS.out ?_ ?_ | refine LeftL.tkG (v := ?_) 1 rfl HS.out ?_ ?_); rotate_left; (· intro V hV; obtain ⟨q0, q1, q2⟩ := HFX.out V hV; clear hV; go_simp; rfl)) | refine LeftL.tkN 1 rfl HS.out ?_
      (intro K' hK'; go_simp; refine hK' _ ?_; clear hK' K')
      first | ((first | refine LeftL.tkF (v := ?_) 2 rfl HS.out ?_ ?_ | refine LeftL.tkG (v := ?_) 2 rfl HS.out ?_ ?_); rotate_left; (· intro V hV; obtain ⟨q0, q1, q2⟩ := HFX.out V hV; clear hV; go_simp; rfl)) | refine LeftL.tkN 2 rfl HS.out ?_
      (intro K' hK'; go_simp; refine hK' _ ?_; clear hK' K')
      first | ((first | refine LeftL.tkF (v := ?_) 3 rfl HS.out ?_ ?_ | refine LeftL.tkG (v := ?_) 3 rfl HS.out ?_ ?_); rotate_left; (· intro V hV; obtain ⟨q0, q1, q2⟩ := HFX.out V hV; clear hV; go_simp; rfl)) | refine LeftL.tkN 3 rfl HS.out ?_
      (intro K' hK'; go_simp; refine hK' _ ?_; clear hK' K')
      first | ((first | refine LeftL.tkF (v := ?_) 4 rfl HS.out ?_ ?_ | refine LeftL.tkG (v := ?_) 4 rfl HS.out ?_ ?_); rotate_left; (· intro V hV; obtain ⟨q0, q1, q2⟩ := HFX.out V hV; clear hV; go_simp; rfl)) | refine LeftL.tkN 4 rfl HS.out ?_
      (intro K' hK'; go_simp; refine hK' _ ?_; clear hK' K')
      first | ((first | refine LeftL.tkF (v := ?_) 5 rfl HS.out ?_ ?_ | refine LeftL.tkG (v := ?_) 5 rfl HS.out ?_ ?_); rotate_left; (· intro V hV; obtain ⟨q0, q1, q2⟩ := HFX.out V hV; clear hV; go_simp; rfl)) | refine LeftL.tkN 5 rfl HS.out ?_
      (intro K' hK'; go_simp; refine hK' _ ?_; clear hK' K')
      first | ((first | refine LeftL.tkF (v := ?_) 6 rfl HS.out ?_ ?_ | refine LeftL.tkG (v := ?_) 6 rfl HS.out ?_ ?_); rotate_left; (· intro V hV; obtain ⟨q0, q1, q2⟩ := HFX.out V hV; clear hV; go_simp; rfl)) | refine LeftL.tkN 6 rfl HS.out ?_
      (intro K' hK'; go_simp; refine hK' _ ?_; clear hK' K')
      first | ((first | refine LeftL.tkF (v := ?_) 7 rfl HS.out ?_ ?_ | refine LeftL.tkG (v := ?_) 7 rfl HS.out ?_ ?_); rotate_left; (· intro V hV; obtain ⟨q0, q1, q2⟩ := HFX.out V hV; clear hV; go_simp; rfl)) | refine LeftL.tkN 7 rfl HS.out ?_
      (intro K' hK'; go_simp; refine hK' _ ?_; clear hK' K')
      first | ((first | refine LeftL.tkF (v := ?_) 8 rfl HS.out ?_ ?_ | refine LeftL.tkG (v := ?_) 8 rfl HS.out ?_ ?_); rotate_left; (· intro V hV; obtain ⟨q0, q1, q2⟩ := HFX.out V hV; clear hV; go_simp; rfl)) | refine LeftL.tkN 8 rfl HS.out ?_
      (intro K' hK'; go_simp; refine hK' _ ?_; clear hK' K')
      refine LeftL.one 9 rfl (by kernel_rfl) ?_
      go_wp2_with fail
      refine ⟨fun _ => ⟨HS.out.1.alloc _, HS.out.2.alloc _⟩, ?_⟩
      refine LeftL.one 10 rfl (by kernel_rfl) ?_
      refine wpList_append_sl _ rfl (.tmp 94) (.tmp 99) 113 rfl 118 i0 _ 3 12 Tryd.underlying113 HI0.out HZ0.out HZ1.out HZ2.out rfl _ k _ own rfl (HSL.out.drew.alloc _) ⟨V4.drew.heap.size, 0, none⟩ 1 1 (actC (a, b, c)) rfl rfl (news_alloc _ (actC (a, b, c)) _) (acts_one _) (by have := HKN.out; have := HN12.out; unfold maxLen; omega) (by have := HKN.out; have := HN12.out; omega) ?_
      intro vv V5 own1 hs1 hf1 ho1
      have hzA : V4.heap.size + 1 = (V4.drew.alloc (.cells (actC (a, b, c)).toArray 118)).heap.size := by simp
      have hfA : Frm wz.heap.size [pb] wz (V4.drew.alloc (.cells (actC (a, b, c)).toArray 118)) := HFR.out.drew.alloc HFR.out.size _
      have hfz5 : Frm wz.heap.size [pb] wz V5 := hfA.call hf1 hfA.size (fun y hy hm => by have := HOWN.out y (by simpa using hm); omega)
      have hownz : ∀ b', own1 = some b' → wz.heap.size ≤ b' := fun b' hb => by
        rcases ho1 with h | ⟨g, h, hg⟩
        · exact HOWN.out b' (by rw [← h]; exact hb)
        · rw [hb] at h; cases h; exact Nat.le_trans hfA.size hg
      have h75 : Blk V5 p7 108 [.pointer (some ⟨pb, 0, none⟩)] := hf1.blk (H7R.out.drew.alloc _) (by have := H7R.out.lt; simp; omega) (fun hm => by have := HOWN.out p7 (by simpa using hm); have := HP7Z.out; omega)
      have hb5 : Blk V5 pb 116 [.int .u32 (st : Int), .slice a1 k c1, v2, v3] := hf1.blk (HBR.out.drew.alloc _) (by have := HBR.out.lt; simp; omega) (fun hm => by have := HOWN.out pb (by simpa using hm); have := HPZ.out; omega)
      have hs2 : Sl V5 118 3 vv (k + 1) ((List.range (k + 1)).flatMap (actsF R)) own1 := by rw [acts_succ, HNX.out]; exact hs1
      obtain ⟨a5, c5, rfl⟩ := hs2.form
      clear hzA hfA hf1 ho1 hs1 HS HSL
      have hS5 := And.intro h75 hb5
      have HS := Lib.hid hS5
      have HFZ5 := Lib.hid hfz5
      have HOWNZ := Lib.hid hownz
      have HS2 := Lib.hid hs2
      clear hs2 hownz hfz5 hS5
      refine wpList_nil ?_
      refine ⟨fun _ => HS.out, ?_⟩
      refine LeftL.one 11 rfl (by kernel_rfl) ?_
      go_wp2_with fail
      first | refine ⟨fun _ => HS.out, ?_⟩ | refine ⟨HS.out, ?_⟩
      first | ((first | refine LeftL.tkF (v := ?_) 12 rfl HS.out ?_ ?_ | refine LeftL.tkG (v := ?_) 12 rfl HS.out ?_ ?_); rotate_left; (· intro V hV; obtain ⟨q0, q1, q2⟩ := HFX.out V hV; clear hV; go_simp; rfl)) | refine LeftL.tkN 12 rfl HS.out ?_
      (intro K' hK'; go_simp; refine hK' _ ?_; clear hK' K')
      obtain ⟨q0, q1, q2⟩ := HFX.out _ HS.out
      refine LeftL.one 13 rfl (by kernel_rfl) ?_
      go_wp2_with fail
      refine ⟨fun h => absurd rfl h, ?_⟩
      have hb6 : Blk (V5.setCell ⟨pb, 1, none⟩ (.slice a5 (k + 1) c5)) pb 116 [.int .u32 (st : Int), .slice a5 (k + 1) c5, v2, v3] := HS.out.2.set 1 _
      have hf6 : Frm wz.heap.size [pb] wz (V5.setCell ⟨pb, 1, none⟩ (.slice a5 (k + 1) c5)) := HFZ5.out.setCell (p := ⟨pb, 1, none⟩) (.inl (by simp)) _
      have hs6 : Sl (V5.setCell ⟨pb, 1, none⟩ (.slice a5 (k + 1) c5)) 118 3 (.slice a5 (k + 1) c5) (k + 1) ((List.range (k + 1)).flatMap (actsF R)) own1 := HS2.out.setCell _ _ (fun b' hb => by have := HOWNZ.out b' hb; have := HPZ.out; dsimp only; omega)
      generalize V5.setCell ⟨pb, 1, none⟩ (.slice a5 (k + 1) c5) = V6 at hb6 hf6 hs6 ⊢
      clear q0 q1 q2 HFX HS
      have hfin : ∃ k' : Nat, Value.int .i64 ((k : Int) + 1) = .int .i64 k' ∧ k' ≤ n ∧ (∀ i, i < k' → (stepO (R.getD i rs0)).isSome = true) ∧ Frm wz.heap.size [pb] wz V6 ∧ ∃ (a1 : Option Addr) (c1 : Nat) (own : Option Nat), Blk V6 pb 116 [.int .u32 (st : Int), .slice a1 k' c1, v2, v3] ∧ Sl V6 118 3 (.slice a1 k' c1) k' ((List.range k').flatMap (actsF R)) own ∧ ∀ b, own = some b → wz.heap.size ≤ b :=
        ⟨k + 1, by simp, HKN.out, HALL2.out, hf6, a5, c5, own1, hb6, hs6, HOWNZ.out⟩
      clear hb6 hf6 hs6
      have HFIN := Lib.hid hfin
      clear hfin
      refine LeftL.done (by kernel_rfl) ?_
      go_wp2_with fail
      (try simp only [w4x, w5x])
      exact ⟨HFIN.out, HMS.out⟩
    · have hkn' : ¬ (k : Int) < (n : Int) := by omega
      obtain rfl : k = n := by omega
      have HALL := Lib.hid hall
      have HFR := Lib.hid hfr
      have HBR := Lib.hid hbr
      have HSL := Lib.hid hsl
      have HOWN := Lib.hid hown
      clear hown hsl hbr hfr hall
      go_wp2_with fail
      exact HEX.out (steps_all (fun i hi => HALL.out i (by have := HN.out; omega))) _ _ _ _ _ _ _ _ _ _ _ _ _ _ _ _ _ _ _ _ _ _ _ _ _ _ _ _ _ _ _ _ _ _ _ _ _ _ _ _ _ _ _ _ _ _ _ _ _ _ _ _ _ _ _ _ _ _ _ _ _ wr a1 c1 own HFR.out HBR.out HSL.out HOWN.out
end Go.Proofs.YtfmigicmfolbjaaDoor
