/-
  Texts S18, S10 of this claim, one behind the other.
-/
import Derived.Test.YtfmigicmfolbjaaDoorB11
import Derived.Deep.OwnRows
namespace Go.Proofs.YtfmigicmfolbjaaDoor
set_option linter.all false
set_option linter.unusedSimpArgs false
set_option linter.unusedVariables false
open Go.RowKit Go.Shelf

theorem beforeS_succ (i : Nat) (a : Nat → Nat) (k : Nat) : beforeS (i + 1) a k = if (a i).testBit k = true then beforeS i a k ||| 1 <<< i else beforeS i a k := by
  unfold beforeS
  rw [List.range_succ, List.foldl_append]
  rfl
/-- The sets, when the first t numbers of A have got i. -/
def bT (A : List Nat) (i : Nat) (B : Nat → Nat) : Nat → Nat → Nat
  | 0 => B
  | t + 1 => upd (bT A i B t) (A.getD t 0) (bT A i B t (A.getD t 0) ||| 1 <<< i)
theorem bT_eq (A : List Nat) (i : Nat) (B : Nat → Nat) (k : Nat) : ∀ t, t ≤ A.length → bT A i B t k = if k ∈ A.take t then B k ||| 1 <<< i else B k
  | 0, _ => by simp [bT]
  | t + 1, h => by
    have ih := bT_eq A i B k t (by omega)
    have ht : A.take (t + 1) = A.take t ++ [A.getD t 0] := by
      rw [List.take_succ]
      simp [List.getD_eq_getElem?_getD, List.getElem?_eq_getElem (show t < A.length by omega)]
    rw [ht]
    unfold bT upd
    by_cases e : k = A.getD t 0
    · rw [if_pos e, ← e, ih, if_pos (show k ∈ A.take t ++ [k] by simp)]
      by_cases hm : k ∈ A.take t
      · rw [if_pos hm, Nat.or_assoc, Nat.or_self]
      · rw [if_neg hm]
    · rw [if_neg e, ih]
      by_cases hm : k ∈ A.take t
      · rw [if_pos hm, if_pos (by simp [hm])]
      · rw [if_neg hm, if_neg (by simp [hm]; exact e)]
theorem bT_lt {A : List Nat} {i m : Nat} {B : Nat → Nat} (hi : i < m) (hB : ∀ k, B k < 2 ^ m) : ∀ t k, bT A i B t k < 2 ^ m
  | 0, k => hB k
  | t + 1, k => by
    unfold bT upd
    split
    · refine Nat.or_lt_two_pow (bT_lt hi hB t _) ?_
      rw [Nat.shiftLeft_eq, Nat.one_mul]
      exact Nat.pow_lt_pow_right (by omega) hi
    · exact bT_lt hi hB t k
theorem setsC_congr {n : Nat} {f g : Nat → Nat} (h : ∀ j, j < n → f j = g j) : setsC n f = setsC n g := by
  unfold setsC
  refine List.map_congr_left fun j hj => ?_
  rw [h j (by simpa using hj)]
theorem bT_done {n i : Nat} (a : Nat → Nat) : setsC n (bT (bitsOf n (a i)) i (beforeS i a) (bitsOf n (a i)).length) = setsC n (beforeS (i + 1) a) := by
  refine setsC_congr fun k hk => ?_
  rw [bT_eq _ _ _ _ _ (Nat.le_refl _), List.take_length, beforeS_succ]
  by_cases h : (a i).testBit k = true
  · rw [if_pos h, if_pos (bitsOf_mem.2 ⟨hk, h⟩)]
  · rw [if_neg h, if_neg (fun hm => h (bitsOf_mem.1 hm).2)]
def SetJ (n N i b2 sb : Nat) (A : List Nat) (B : Nat → Nat) (w1 : World) (t : Nat) (V : World) : Prop := Frm N [b2, sb] w1 V ∧ Blk V b2 119 (setsC n (bT A i B t))
set_option maxRecDepth 100000 in
set_option maxHeartbeats 16000000 in
theorem sets_loop (n p7 pb b2 b3 st : Nat) (v1 : Value) (a : Nat → Nat) (hn12 : n ≤ 12) (hal : ∀ j, j < n → a j < 2 ^ n) (w0 wz : World) (hg : Glob w0) (hw0 : Frm w0.heap.size [] w0 wz)
    (hp7 : Blk wz p7 108 [.pointer (some ⟨pb, 0, none⟩)]) (hpb : Blk wz pb 116 [.int .u32 (st : Int), v1, .slice (some ⟨b2, 0, none⟩) n n, .slice (some ⟨b3, 0, none⟩) n n]) (hb2 : Blk wz b2 119 (setsC n fun _ => 0)) (hb3 : Blk wz b3 119 (setsC n a))
    (hw2 : w0.heap.size ≤ b2) (hne7 : p7 ≠ b2) (hneb : pb ≠ b2) (hne3 : b3 ≠ b2)
    (x0 x1 x2 x3 x4 x5 x6 x8 x9 x10 x11 x12 x13 x14 x15 x16 x17 x18 x19 x20 x21 x22 x23 x24 x25 x26 x27 x28 x29 x30 x31 x32 x33 x34 x35 x36 x37 x38 x39 x40 x41 x42 x43 x44 x45 x46 x47 x48 x49 x50 x51 x52 x53 x54 x55 x56 x57 x58 x59 x60 x61 x62 x63 x64 x65 x66 x67 x68 x69 x70 x71 x72 x73 x74 x75 x76 x77 x78 x79 x80 x81 x82 x83 x84 x85 x86 x87 x88 x89 x90 x91 x92 x93 x94 x95 x96 x97 x98 x99 x100 x101 x102 x103 x104 x105 x106 x107 x108 x109 x110 x111 x112 x113 x114 x115 x116 x117 x118 x119 x120 x121 x122 x123 x124 x125 x126 x127 x128 x129 x130 x131 x132 x133 x134 x135 x136 x137 x138 x139 x140 x141 x142 x143 x144 x145 x146 x147 x148 x152 x153 x154 x155 x156 x157 x158 x159 x160 x161 x162 x163 x164 x165 x166 x167 x168 x169 x170 x171 x172 x173 x174 x175 x176 x177 x178 : Value) (Q0 : Exit → Act → World → Prop)
    (hno : ¬ (∀ i, i < n → (a i).testBit i = false) → ∀ (u18 u19 u20 u151 u152 u153 u154 u155 u156 u157 u158 u159 u160 u161 u162 u163 u164 u165 u166 u167 u168 u169 u170 u171 u172 u173 u174 u175 u176 u177 : Value) (ds : List Deferred) (w' : World), Frm w0.heap.size [] w0 w' → Marks w0.heap.size ds w' → Q0 .ret ⟨(List.toArray (x0 :: x1 :: .pointer none :: .bool false :: x4 :: x5 :: x6 :: .pointer (some ⟨p7, 0, none⟩) :: x8 :: x9 :: x10 :: x11 :: x12 :: x13 :: x14 :: x15 :: x16 :: x17 :: u18 :: u19 :: u20 :: x21 :: x22 :: x23 :: x24 :: x25 :: x26 :: x27 :: x28 :: x29 :: x30 :: x31 :: x32 :: x33 :: x34 :: x35 :: x36 :: x37 :: x38 :: x39 :: x40 :: x41 :: x42 :: x43 :: x44 :: x45 :: x46 :: x47 :: x48 :: x49 :: x50 :: x51 :: x52 :: x53 :: x54 :: x55 :: x56 :: x57 :: x58 :: x59 :: x60 :: x61 :: x62 :: x63 :: x64 :: x65 :: x66 :: x67 :: x68 :: x69 :: x70 :: x71 :: x72 :: x73 :: x74 :: x75 :: x76 :: x77 :: x78 :: x79 :: x80 :: x81 :: x82 :: x83 :: x84 :: x85 :: x86 :: x87 :: x88 :: x89 :: x90 :: x91 :: x92 :: x93 :: x94 :: x95 :: x96 :: x97 :: x98 :: x99 :: x100 :: x101 :: x102 :: x103 :: x104 :: x105 :: x106 :: x107 :: x108 :: x109 :: x110 :: x111 :: x112 :: x113 :: x114 :: x115 :: x116 :: x117 :: x118 :: x119 :: x120 :: x121 :: x122 :: x123 :: x124 :: x125 :: x126 :: x127 :: x128 :: x129 :: x130 :: x131 :: x132 :: x133 :: x134 :: x135 :: x136 :: x137 :: x138 :: x139 :: x140 :: x141 :: x142 :: x143 :: x144 :: x145 :: x146 :: x147 :: x148 :: .slice (some ⟨b3, 0, none⟩) n n :: .int .i64 n :: u151 :: u152 :: u153 :: u154 :: u155 :: u156 :: u157 :: u158 :: u159 :: u160 :: u161 :: u162 :: u163 :: u164 :: u165 :: u166 :: u167 :: u168 :: u169 :: u170 :: u171 :: u172 :: u173 :: u174 :: u175 :: u176 :: u177 :: x178 :: [])), ds⟩ w')
    (hex : (∀ i, i < n → (a i).testBit i = false) → ∀ (u2 u3 u18 u19 u20 u151 u152 u153 u154 u155 u156 u157 u158 u159 u160 u161 u162 u163 u164 u165 u166 u167 u168 u169 u170 u171 u172 u173 u174 u175 u176 u177 : Value) (ds : List Deferred) (w' : World), Frm wz.heap.size [b2] wz w' → Blk w' b2 119 (setsC n (beforeS n a)) → Marks w0.heap.size ds w' → Q0 (.exit 4) ⟨(List.toArray (x0 :: x1 :: u2 :: u3 :: x4 :: x5 :: x6 :: .pointer (some ⟨p7, 0, none⟩) :: x8 :: x9 :: x10 :: x11 :: x12 :: x13 :: x14 :: x15 :: x16 :: x17 :: u18 :: u19 :: u20 :: x21 :: x22 :: x23 :: x24 :: x25 :: x26 :: x27 :: x28 :: x29 :: x30 :: x31 :: x32 :: x33 :: x34 :: x35 :: x36 :: x37 :: x38 :: x39 :: x40 :: x41 :: x42 :: x43 :: x44 :: x45 :: x46 :: x47 :: x48 :: x49 :: x50 :: x51 :: x52 :: x53 :: x54 :: x55 :: x56 :: x57 :: x58 :: x59 :: x60 :: x61 :: x62 :: x63 :: x64 :: x65 :: x66 :: x67 :: x68 :: x69 :: x70 :: x71 :: x72 :: x73 :: x74 :: x75 :: x76 :: x77 :: x78 :: x79 :: x80 :: x81 :: x82 :: x83 :: x84 :: x85 :: x86 :: x87 :: x88 :: x89 :: x90 :: x91 :: x92 :: x93 :: x94 :: x95 :: x96 :: x97 :: x98 :: x99 :: x100 :: x101 :: x102 :: x103 :: x104 :: x105 :: x106 :: x107 :: x108 :: x109 :: x110 :: x111 :: x112 :: x113 :: x114 :: x115 :: x116 :: x117 :: x118 :: x119 :: x120 :: x121 :: x122 :: x123 :: x124 :: x125 :: x126 :: x127 :: x128 :: x129 :: x130 :: x131 :: x132 :: x133 :: x134 :: x135 :: x136 :: x137 :: x138 :: x139 :: x140 :: x141 :: x142 :: x143 :: x144 :: x145 :: x146 :: x147 :: x148 :: .slice (some ⟨b3, 0, none⟩) n n :: .int .i64 n :: u151 :: u152 :: u153 :: u154 :: u155 :: u156 :: u157 :: u158 :: u159 :: u160 :: u161 :: u162 :: u163 :: u164 :: u165 :: u166 :: u167 :: u168 :: u169 :: u170 :: u171 :: u172 :: u173 :: u174 :: u175 :: u176 :: u177 :: x178 :: [])), ds⟩ w') :
    Code.wp Tryd.prog (Code.loop (loopOf Tryd.f68.body 2)) Q0 ⟨(List.toArray (x0 :: x1 :: x2 :: x3 :: x4 :: x5 :: x6 :: .pointer (some ⟨p7, 0, none⟩) :: x8 :: x9 :: x10 :: x11 :: x12 :: x13 :: x14 :: x15 :: x16 :: x17 :: x18 :: x19 :: x20 :: x21 :: x22 :: x23 :: x24 :: x25 :: x26 :: x27 :: x28 :: x29 :: x30 :: x31 :: x32 :: x33 :: x34 :: x35 :: x36 :: x37 :: x38 :: x39 :: x40 :: x41 :: x42 :: x43 :: x44 :: x45 :: x46 :: x47 :: x48 :: x49 :: x50 :: x51 :: x52 :: x53 :: x54 :: x55 :: x56 :: x57 :: x58 :: x59 :: x60 :: x61 :: x62 :: x63 :: x64 :: x65 :: x66 :: x67 :: x68 :: x69 :: x70 :: x71 :: x72 :: x73 :: x74 :: x75 :: x76 :: x77 :: x78 :: x79 :: x80 :: x81 :: x82 :: x83 :: x84 :: x85 :: x86 :: x87 :: x88 :: x89 :: x90 :: x91 :: x92 :: x93 :: x94 :: x95 :: x96 :: x97 :: x98 :: x99 :: x100 :: x101 :: x102 :: x103 :: x104 :: x105 :: x106 :: x107 :: x108 :: x109 :: x110 :: x111 :: x112 :: x113 :: x114 :: x115 :: x116 :: x117 :: x118 :: x119 :: x120 :: x121 :: x122 :: x123 :: x124 :: x125 :: x126 :: x127 :: x128 :: x129 :: x130 :: x131 :: x132 :: x133 :: x134 :: x135 :: x136 :: x137 :: x138 :: x139 :: x140 :: x141 :: x142 :: x143 :: x144 :: x145 :: x146 :: x147 :: x148 :: .slice (some ⟨b3, 0, none⟩) n n :: .int .i64 n :: .int .i64 0 :: x152 :: x153 :: x154 :: x155 :: x156 :: x157 :: x158 :: x159 :: x160 :: x161 :: x162 :: x163 :: x164 :: x165 :: x166 :: x167 :: x168 :: x169 :: x170 :: x171 :: x172 :: x173 :: x174 :: x175 :: x176 :: x177 :: x178 :: [])), []⟩ wz := by
  have hf0 := Tryd.func68
  have e3 : Enters 113 := enters Tryd.func113 (by kernel_rfl) (by kernel_rfl)
  clear hf0
  have hb2z : b2 < wz.heap.size := hb2.lt
  have hb3z : b3 < wz.heap.size := hb3.lt
  have hpz : pb < wz.heap.size := hpb.lt
  have hp7z : p7 < wz.heap.size := hp7.lt
  have hlen : n ≤ maxLen := by unfold maxLen; omega
  have HN12 := Lib.hid hn12
  have HAL := Lib.hid hal
  have HG := Lib.hid hg
  have HW0 := Lib.hid hw0
  have HP7 := Lib.hid hp7
  have HPB := Lib.hid hpb
  have HB2 := Lib.hid hb2
  have HB3 := Lib.hid hb3
  have HW2 := Lib.hid hw2
  have HNE7 := Lib.hid hne7
  have HNEB := Lib.hid hneb
  have HNE3 := Lib.hid hne3
  have HNO := Lib.hid hno
  have HEX := Lib.hid hex
  have E3 := Lib.hid e3
  have HB2Z := Lib.hid hb2z
  have HB3Z := Lib.hid hb3z
  have HPZ := Lib.hid hpz
  have HP7Z := Lib.hid hp7z
  have HLEN := Lib.hid hlen
  clear hlen hp7z hpz hb3z hb2z e3 hex hno hne3 hneb hne7 hw2 hb3 hb2 hpb hp7 hw0 hg hal hn12
  conv => arg 2; arg 1; whnf
  refine wp_loop (fun a' wr => ∃ (i : Nat) (ds : List Deferred) (u2 u3 u18 u19 u20 u152 u153 u154 u155 u156 u157 u158 u159 u160 u161 u162 u163 u164 u165 u166 u167 u168 u169 u170 u171 u172 u173 u174 u175 u176 u177 : Value), (i ≤ n ∧ (∀ j, j < i → (a j).testBit j = false) ∧ Frm wz.heap.size [b2] wz wr ∧ Blk wr b2 119 (setsC n (beforeS i a)) ∧ Marks w0.heap.size ds wr) ∧ a' = ⟨(List.toArray (x0 :: x1 :: u2 :: u3 :: x4 :: x5 :: x6 :: .pointer (some ⟨p7, 0, none⟩) :: x8 :: x9 :: x10 :: x11 :: x12 :: x13 :: x14 :: x15 :: x16 :: x17 :: u18 :: u19 :: u20 :: x21 :: x22 :: x23 :: x24 :: x25 :: x26 :: x27 :: x28 :: x29 :: x30 :: x31 :: x32 :: x33 :: x34 :: x35 :: x36 :: x37 :: x38 :: x39 :: x40 :: x41 :: x42 :: x43 :: x44 :: x45 :: x46 :: x47 :: x48 :: x49 :: x50 :: x51 :: x52 :: x53 :: x54 :: x55 :: x56 :: x57 :: x58 :: x59 :: x60 :: x61 :: x62 :: x63 :: x64 :: x65 :: x66 :: x67 :: x68 :: x69 :: x70 :: x71 :: x72 :: x73 :: x74 :: x75 :: x76 :: x77 :: x78 :: x79 :: x80 :: x81 :: x82 :: x83 :: x84 :: x85 :: x86 :: x87 :: x88 :: x89 :: x90 :: x91 :: x92 :: x93 :: x94 :: x95 :: x96 :: x97 :: x98 :: x99 :: x100 :: x101 :: x102 :: x103 :: x104 :: x105 :: x106 :: x107 :: x108 :: x109 :: x110 :: x111 :: x112 :: x113 :: x114 :: x115 :: x116 :: x117 :: x118 :: x119 :: x120 :: x121 :: x122 :: x123 :: x124 :: x125 :: x126 :: x127 :: x128 :: x129 :: x130 :: x131 :: x132 :: x133 :: x134 :: x135 :: x136 :: x137 :: x138 :: x139 :: x140 :: x141 :: x142 :: x143 :: x144 :: x145 :: x146 :: x147 :: x148 :: .slice (some ⟨b3, 0, none⟩) n n :: .int .i64 n :: .int .i64 (i : Int) :: u152 :: u153 :: u154 :: u155 :: u156 :: u157 :: u158 :: u159 :: u160 :: u161 :: u162 :: u163 :: u164 :: u165 :: u166 :: u167 :: u168 :: u169 :: u170 :: u171 :: u172 :: u173 :: u174 :: u175 :: u176 :: u177 :: x178 :: [])), ds⟩) (fun a' _ => n - (intOf (a'.tmps.getD 151 undef)).toNat) ?_ ?_
  · exact ⟨0, [], _, _, _, _, _, _, _, _, _, _, _, _, _, _, _, _, _, _, _, _, _, _, _, _, _, _, _, _, _, _, _, ⟨Nat.zero_le _, fun j hj => by omega, Frm.refl _ _ _, HB2.out, Marks.nil _ _⟩, rfl⟩
  rintro _ wr ⟨i, ds, u2, u3, u18, u19, u20, u152, u153, u154, u155, u156, u157, u158, u159, u160, u161, u162, u163, u164, u165, u166, u167, u168, u169, u170, u171, u172, u173, u174, u175, u176, u177, ⟨hi, hall, hfr, hbr, hmk⟩, rfl⟩
  have hfw : Frm w0.heap.size [] w0 wr := HW0.out.call hfr HW0.out.size (fun x hx hm => by simp at hm; have := HW2.out; omega)
  by_cases hin : i < n
  rotate_left
  · have hin' : ¬ (i : Int) < (n : Int) := by omega
    obtain rfl : i = n := by omega
    have HALL := Lib.hid hall
    have HFR := Lib.hid hfr
    have HBR := Lib.hid hbr
    have HMK := Lib.hid hmk
    clear hmk hbr hfr hall
    go_wp2_with fail
    exact HEX.out HALL.out _ _ _ _ _ _ _ _ _ _ _ _ _ _ _ _ _ _ _ _ _ _ _ _ _ _ _ _ _ _ _ _ ds wr HFR.out HBR.out HMK.out
  have hin' : (i : Int) < (n : Int) := by omega
  obtain ⟨w4x, w5x⟩ := wrapUp hin HLEN.out
  have hms := meas_up hin
  obtain ⟨s, hs⟩ : ∃ s, s = a i := ⟨_, rfl⟩
  have hsn : s < 2 ^ n := by rw [hs]; exact HAL.out i hin
  have hs12 : s < 4294967296 := by
    have h2 : 2 ^ n ≤ 2 ^ 12 := Nat.pow_le_pow_right (by omega) HN12.out
    omega
  have cs : wr.cell? ⟨b3, i, none⟩ = some (.int .u32 (s : Int)) := by rw [hs]; exact sets_cell (hfr.blk HB3.out HB3Z.out (by simpa using HNE3.out)) hin
  cases ht : s.testBit i
  rotate_left
  · have hnn : ¬ ∀ j, j < n → (a j).testBit j = false := fun h => by have := h i hin; rw [← hs, ht] at this; cases this
    have HALL := Lib.hid hall
    have HFR := Lib.hid hfr
    have HBR := Lib.hid hbr
    have HMK := Lib.hid hmk
    have HIN := Lib.hid hin
    have HMS := Lib.hid hms
    have HS := Lib.hid hs
    have HSN := Lib.hid hsn
    have HS12 := Lib.hid hs12
    have HT := Lib.hid ht
    have HNN := Lib.hid hnn
    have HFW := Lib.hid hfw
    clear hfw hnn ht hs12 hsn hs hms hin hmk hbr hfr hall
    go_wp2_with (go_at_call 73; refine (hasS_any s i HS12.out (by have := HIN.out; have := HN12.out; omega) _).mono ?_; rintro e w' ⟨rfl, rfl⟩; rw [HT.out])
    refine HNO.out HNN.out _ _ _ _ _ _ _ _ _ _ _ _ _ _ _ _ _ _ _ _ _ _ _ _ _ _ _ _ _ _ ds _ ?_ ?_
    · exact (HFW.out.alloc HFW.out.size _)
    · exact HMK.out.frm ((Frm.refl wr.heap.size [] wr).alloc (Nat.le_refl _) _) (Nat.le_refl _) (fun x hx => by cases hx)
  have hall2 : ∀ j, j < i + 1 → (a j).testBit j = false := fun j hj => by
    rcases Nat.lt_or_ge j i with h | h
    · exact hall j h
    · obtain rfl : j = i := by omega
      rw [← hs]; exact ht
  have HALL := Lib.hid hall2
  have HFR := Lib.hid hfr
  have HBR := Lib.hid hbr
  have HMK := Lib.hid hmk
  have HIN := Lib.hid hin
  have HMS := Lib.hid hms
  have HS := Lib.hid hs
  have HSN := Lib.hid hsn
  have HS12 := Lib.hid hs12
  have HT := Lib.hid ht
  have HFW := Lib.hid hfw
  clear hfw ht hs12 hsn hs hms hin hmk hbr hfr hall2
  clear hall
  go_wp2_with (go_at_call 73; refine (hasS_any s i HS12.out (by have := HIN.out; have := HN12.out; omega) _).mono ?_; rintro e w' ⟨rfl, rfl⟩; rw [HT.out])
  refine namedCalls ?_; intro W hW
  obtain ⟨p, hp⟩ : ∃ p, p = wr.heap.size := ⟨_, rfl⟩
  have k18 : Blk W p 3 [.int .i64 (i : Int)] := by rw [hW, hp]; exact Blk.new wr 3 [.int .i64 (i : Int)]
  have hfW : Frm wr.heap.size [] wr W := by rw [hW]; repeat (first | with_reducible exact Frm.refl _ _ _ | with_reducible refine Frm.drewN ?_ | with_reducible refine Frm.drew ?_ | ((with_reducible refine Frm.setCell' ?_ ?_); · first | (left; simp; done) | (right; simp; done) | (right; simp; omega)) | ((with_reducible refine Frm.alloc' ?_ ?_); · first | exact Nat.le_refl _ | (simp; done) | (simp; omega)))
  rw [← hp]
  clear hW cs
  refine (allS_any s W).mono ?_; rintro e w1 ⟨rfl, hsb, hf1⟩
  obtain ⟨sb, hsbn⟩ : ∃ k, k = W.heap.size := ⟨_, rfl⟩
  have hpW : p < W.heap.size := k18.lt
  have k18 := hf1.blk k18 hpW (by simp)
  have hfr1 : Frm wr.heap.size [] wr w1 := hfW.call hf1 hfW.size (by simp)
  have hwrW := hfW.size
  rw [← hsbn] at hsb hpW hwrW ⊢
  have hsl := hsb.lt
  clear hf1 hfW hsbn
  have HP := Lib.hid hp
  have K18 := Lib.hid k18
  have HFR1 := Lib.hid hfr1
  have HPW := Lib.hid hpW
  have HSB := Lib.hid hsb
  have HSL := Lib.hid hsl
  have HWRW := Lib.hid hwrW
  clear hwrW hsl hsb hpW hfr1 k18 hp
  go_wp2_with fail
  obtain ⟨N, hN⟩ : ∃ N, N = w1.heap.size := ⟨_, rfl⟩
  have hsN : sb < N := by rw [hN]; exact HSL.out
  have hpN : p < sb := HPW.out
  have hfw1 : Frm w0.heap.size [] w0 w1 := HFW.out.call HFR1.out HFW.out.size (by simp)
  have hwN : w0.heap.size ≤ N := by rw [hN]; exact hfw1.size
  have hfz1 : Frm wz.heap.size [b2] wz w1 := HFR.out.call HFR1.out HFR.out.size (by simp)
  have hzN : wz.heap.size ≤ wr.heap.size := HFR.out.size
  have hb21 : Blk w1 b2 119 (setsC n (beforeS i a)) := HFR1.out.blk HBR.out HBR.out.lt (by simp)
  have hmk1 : Marks w0.heap.size ds w1 := HMK.out.frm HFR1.out (Nat.le_refl _) (fun x hx => by cases hx)
  have hzsb : wz.heap.size ≤ sb := Nat.le_trans hzN HWRW.out
  have hzp : wz.heap.size ≤ p := by rw [HP.out]; exact hzN
  have h2sb : b2 < sb := Nat.lt_of_lt_of_le HB2Z.out hzsb
  obtain ⟨A, hA⟩ : ∃ A, A = bitsOf n s := ⟨_, rfl⟩
  have hAl : ∀ j, j < A.length → A.getD j 0 < n := fun j hj => by
    have h1 : A.getD j 0 ∈ A := by simp [List.getD_eq_getElem?_getD, hj]
    rw [hA] at h1
    exact (bitsOf_mem.1 (by rw [← hA] at h1 ⊢; exact h1)).1
  have HNE := Lib.hid hN
  have HFW1 := Lib.hid hfw1
  have HFZ1 := Lib.hid hfz1
  have HB21 := Lib.hid hb21
  have HMK1 := Lib.hid hmk1
  have HAA := Lib.hid hA
  have HAL2 := Lib.hid hAl
  have HZN := Lib.hid hzN
  have HZSB := Lib.hid hzsb
  have HZP := Lib.hid hzp
  have H2SB := Lib.hid h2sb
  have HSNN := Lib.hid hsN
  have HPN := Lib.hid hpN
  have HWN := Lib.hid hwN
  clear hwN hpN hsN h2sb hzp hzsb hzN hAl hA hmk1 hb21 hfz1 hfw1 hN
  refine (wpIn_wide (n := 1)).1 ?_
  refine wp_rangeFunc_ret (m := 0) (gf := 113) (lb := #[.pointer (some ⟨sb, 0, none⟩)]) rfl E3.out.out
    (fun t => #[.int .i64 ((A.getD t 0 : Nat) : Int)]) (fun t => rfl) A.length (fun _ => true) [sb] [b2] (SetJ n N i b2 sb A (beforeS i a) w1) (fun _ _ => False)
    (fun _ _ => True) ?hS0 ?hST ?hJ ?hJx ?hR ?hiter ?h0 ?hround ?hdone ?hstop
  case hS0 => intro x hx; rw [← HNE.out]; have := HSNN.out; have := H2SB.out; simp at hx; omega
  case hST => intro x hx; rw [← HNE.out]; have := HSNN.out; simp at hx; omega
  case hJ =>
    rintro t A1 B' hA1 ⟨j0, j1⟩ hf
    rw [← HNE.out] at hA1 hf
    have hsN := HSNN.out
    have h2 := H2SB.out
    exact ⟨j0.call hf (by omega) (fun x hx hm => by simp at hm ⊢; omega), hf.blk j1 j1.lt (by simp; omega)⟩
  case hJx => intro t A1 o hA1 h; exact h
  case hR => intro o A1 ob hR; trivial
  case hiter =>
    intro J' Jx' W2 hfW2 hN2 hJ' hY' h0'
    rw [← HNE.out] at hfW2 hN2 hJ' hY'
    rw [← HNE.out]
    have hsN := HSNN.out
    have h2 := H2SB.out
    have hwN := HWN.out
    have hw2 := HW2.out
    have hw2f : Frm w0.heap.size [] w0 W2 := HFW1.out.call hfW2 hwN (by simp)
    refine callsIn_wide.2 ((iterS_any sb s n N 0 (N + 1) [b2] w0 W2 HG.out hw2f (hfW2.blk HSB.out hsN (by simp)) (by omega) (by omega) hsN (by simp; omega) (fun x hx => by simp at hx; omega) (by have := HN12.out; omega) HSN.out (fun _ => true)
      (fun t A1 => J' t A1 ∧ N + 2 ≤ A1.heap.size) Jx' ?_ ?_ ⟨h0', hN2⟩).mono ?_)
    · rintro t A1 B' _ ⟨hj, hz⟩ hf
      exact ⟨hJ' t A1 B' hz hj hf, Nat.le_trans hz hf.size⟩
    · rintro t A0 A1 ht _ ⟨hj, hz⟩ hf
      rw [← HAA.out] at ht ⊢
      refine (hY' t A0 A1 ht hz hj hf).mono ?_
      rintro e A' ⟨hk, (⟨h1, h2, h3⟩ | h)⟩
      · exact ⟨hk, .inl ⟨h1, h2, h3, Nat.le_trans (Nat.le_trans hz hf.size) hk.frm.size⟩⟩
      · exact ⟨hk, .inr h⟩
    · rintro e W3 ⟨hv, hf3, (⟨h1, h2⟩ | ⟨t, h1, h2, h3, h4⟩)⟩
      · rw [← HAA.out] at h1
        exact ⟨hv, .inl ⟨trivial, h1.1⟩⟩
      · cases h3
  case h0 =>
    intro W2 hf2 hz
    rw [← HNE.out] at hf2
    have hsN := HSNN.out
    have h2 := H2SB.out
    exact ⟨hf2.narrow (by simp), hf2.blk HB21.out (by omega) (by simp)⟩
  case hround =>
    rintro t A0 W2 ht hz0 _ hf0 ⟨j0, j1⟩
    rw [← HNE.out] at hz0
    rw [← HNE.out]
    have hkn := HAL2.out t ht
    obtain ⟨k, hk⟩ : ∃ k, k = A.getD t 0 := ⟨_, rfl⟩
    rw [← hk] at hkn
    dsimp only
    simp only [← hk]
    have hsN := HSNN.out
    have h2 := H2SB.out
    have HKK := Lib.hid hk
    have HTT := Lib.hid ht
    clear ht hk
    refine regionIn_of (noOut noOutF) rfl ?_
    go_wp2_with fail
    refine ⟨⟨Frm.refl _ _ _, fun k _ _ => rfl⟩, ?_⟩
    intro o
    have hz2 : N + 2 ≤ W2.heap.size := Nat.le_trans hz0 hf0.size
    obtain ⟨W4, hW4⟩ : ∃ W4, W4 = W2.putObj (N + 1) o := ⟨_, rfl⟩
    have hz4 : N + 2 ≤ W4.heap.size := by rw [hW4]; simpa using hz2
    have e0 : Frm N [b2, sb] w1 W4 := by rw [hW4]; exact j0.putObj (.inr (by omega)) o
    have e1 : Blk W4 b2 119 (setsC n (bT A i (beforeS i a) t)) := by rw [hW4]; exact (World.putObj_heap_other (by omega)).trans j1
    rw [← hW4]
    have hz0A : A0.heap.size ≤ W4.heap.size := by rw [hW4]; simpa using hf0.size
    clear hW4 j0 j1 hf0 hz2
    obtain ⟨x, hx⟩ : ∃ x, x = bT A i (beforeS i a) t k := ⟨_, rfl⟩
    have hx12 : x < 2 ^ 12 := by rw [hx]; exact bT_lt (by have := HIN.out; have := HN12.out; omega) (fun k => Nat.lt_of_lt_of_le (beforeS_lt i a k) (Nat.pow_le_pow_right (by omega) (by have := HIN.out; have := HN12.out; omega))) t k
    have hx32 : x < 4294967296 := by omega
    have e7 : Blk W4 p7 108 [.pointer (some ⟨pb, 0, none⟩)] := e0.blk (HFZ1.out.blk HP7.out HP7Z.out (by simpa using HNE7.out)) (by have := HP7Z.out; have := HZSB.out; omega) (by have := HP7Z.out; have := HZSB.out; have := HNE7.out; simp; omega)
    have eb : Blk W4 pb 116 [.int .u32 (st : Int), v1, .slice (some ⟨b2, 0, none⟩) n n, .slice (some ⟨b3, 0, none⟩) n n] := e0.blk (HFZ1.out.blk HPB.out HPZ.out (by simpa using HNEB.out)) (by have := HPZ.out; have := HZSB.out; omega) (by have := HPZ.out; have := HZSB.out; have := HNEB.out; simp; omega)
    have ep : Blk W4 p 3 [.int .i64 (i : Int)] := e0.blk K18.out (by have := HPN.out; omega) (by have := HPN.out; have := HZP.out; have := HB2Z.out; simp; omega)
    have hkn' : (k : Int) < (n : Int) := by omega
    have hfx : ∀ V, Frm W4.heap.size [] W4 V → V.cell? ⟨p7, 0, none⟩ = some (.pointer (some ⟨pb, 0, none⟩)) ∧ V.cell? ⟨pb, 2, none⟩ = some (.slice (some ⟨b2, 0, none⟩) n n) ∧ V.cell? ⟨p, 0, none⟩ = some (.int .i64 (i : Int)) ∧ V.cell? ⟨b2, k, none⟩ = some (.int .u32 (x : Int)) ∧ V.frozen? ⟨b2, k, none⟩ = false := fun V hV => by
      have hb := hV.blk e1 e1.lt (by simp)
      exact ⟨(hV.blk e7 e7.lt (by simp)).cell 0, (hV.blk eb eb.lt (by simp)).cell 2, (hV.blk ep ep.lt (by simp)).cell 0, by rw [hx]; exact sets_cell hb hkn, hb.free k⟩
    clear e7 eb ep hx12 hsN h2
    have E0 := Lib.hid e0
    have E1 := Lib.hid e1
    have HFX := Lib.hid hfx
    have HKN := Lib.hid hkn
    have HZA := Lib.hid hz0A
    have HZ4 := Lib.hid hz4
    have HX := Lib.hid hx
    have HX32 := Lib.hid hx32
    have HZ0 := Lib.hid hz0
    clear hz0 hx32 hx hz4 hz0A hkn hfx e1 e0
    refine wpIn_block ?_
    refine regionIn_leftL (noOutB noOutR) (by kernel_rfl) (fun V => Frm W4.heap.size [] W4 V) 15 (by kernel_rfl) ?_
    have hS : Frm W4.heap.size [] W4 W4.drew := (Frm.refl _ _ W4).drew
    clear HS
    have HS := Lib.hid hS
    clear hS
    first | ((first | refine LeftL.tkF (v := ?_) 0 rfl HS.out ?_ ?_ | refine LeftL.tkG (v := ?_) 0 rfl HS.out ?_ ?_); rotate_left; (· intro V hV; obtain ⟨q0, q1, q2, q3, q4⟩ := HFX.out V hV; clear hV; go_simp; rfl)) | refine LeftL.tkN 0 rfl HS.out ?_
    (intro K' hK'; go_simp; refine hK' _ ?_; clear hK' K')
    first | ((first | refine LeftL.tkF (v := ?_) 1 rfl HS.out ?_ ?_ | refine LeftL.tkG (v := ?_) 1 rfl HS.out ?_ ?_); rotate_left; (· intro V hV; obtain ⟨q0, q1, q2, q3, q4⟩ := HFX.out V hV; clear hV; go_simp; rfl)) | refine LeftL.tkN 1 rfl HS.out ?_
    (intro K' hK'; go_simp; refine hK' _ ?_; clear hK' K')
    first | ((first | refine LeftL.tkF (v := ?_) 2 rfl HS.out ?_ ?_ | refine LeftL.tkG (v := ?_) 2 rfl HS.out ?_ ?_); rotate_left; (· intro V hV; obtain ⟨q0, q1, q2, q3, q4⟩ := HFX.out V hV; clear hV; go_simp; rfl)) | refine LeftL.tkN 2 rfl HS.out ?_
    (intro K' hK'; go_simp; refine hK' _ ?_; clear hK' K')
    first | ((first | refine LeftL.tkF (v := ?_) 3 rfl HS.out ?_ ?_ | refine LeftL.tkG (v := ?_) 3 rfl HS.out ?_ ?_); rotate_left; (· intro V hV; obtain ⟨q0, q1, q2, q3, q4⟩ := HFX.out V hV; clear hV; go_simp; rfl)) | refine LeftL.tkN 3 rfl HS.out ?_
    (intro K' hK'; go_simp; refine hK' _ ?_; clear hK' K')
    first | ((first | refine LeftL.tkF (v := ?_) 4 rfl HS.out ?_ ?_ | refine LeftL.tkG (v := ?_) 4 rfl HS.out ?_ ?_); rotate_left; (· intro V hV; obtain ⟨q0, q1, q2, q3, q4⟩ := HFX.out V hV; clear hV; go_simp; rfl)) | refine LeftL.tkN 4 rfl HS.out ?_
    (intro K' hK'; go_simp; refine hK' _ ?_; clear hK' K')
    first | ((first | refine LeftL.tkF (v := ?_) 5 rfl HS.out ?_ ?_ | refine LeftL.tkG (v := ?_) 5 rfl HS.out ?_ ?_); rotate_left; (· intro V hV; obtain ⟨q0, q1, q2, q3, q4⟩ := HFX.out V hV; clear hV; go_simp; rfl)) | refine LeftL.tkN 5 rfl HS.out ?_
    (intro K' hK'; go_simp; refine hK' _ ?_; clear hK' K')
    first | ((first | refine LeftL.tkF (v := ?_) 6 rfl HS.out ?_ ?_ | refine LeftL.tkG (v := ?_) 6 rfl HS.out ?_ ?_); rotate_left; (· intro V hV; obtain ⟨q0, q1, q2, q3, q4⟩ := HFX.out V hV; clear hV; go_simp; rfl)) | refine LeftL.tkN 6 rfl HS.out ?_
    (intro K' hK'; go_simp; refine hK' _ ?_; clear hK' K')
    first | ((first | refine LeftL.tkF (v := ?_) 7 rfl HS.out ?_ ?_ | refine LeftL.tkG (v := ?_) 7 rfl HS.out ?_ ?_); rotate_left; (· intro V hV; obtain ⟨q0, q1, q2, q3, q4⟩ := HFX.out V hV; clear hV; go_simp; rfl)) | refine LeftL.tkN 7 rfl HS.out ?_
    (intro K' hK'; go_simp; refine hK' _ ?_; clear hK' K')
    first | ((first | refine LeftL.tkF (v := ?_) 8 rfl HS.out ?_ ?_ | refine LeftL.tkG (v := ?_) 8 rfl HS.out ?_ ?_); rotate_left; (· intro V hV; obtain ⟨q0, q1, q2, q3, q4⟩ := HFX.out V hV; clear hV; go_simp; rfl)) | refine LeftL.tkN 8 rfl HS.out ?_
    (intro K' hK'; go_simp; refine hK' _ ?_; clear hK' K')
    first | ((first | refine LeftL.tkF (v := ?_) 9 rfl HS.out ?_ ?_ | refine LeftL.tkG (v := ?_) 9 rfl HS.out ?_ ?_); rotate_left; (· intro V hV; obtain ⟨q0, q1, q2, q3, q4⟩ := HFX.out V hV; clear hV; go_simp; rfl)) | refine LeftL.tkN 9 rfl HS.out ?_
    (intro K' hK'; go_simp; refine hK' _ ?_; clear hK' K')
    first | ((first | refine LeftL.tkF (v := ?_) 10 rfl HS.out ?_ ?_ | refine LeftL.tkG (v := ?_) 10 rfl HS.out ?_ ?_); rotate_left; (· intro V hV; obtain ⟨q0, q1, q2, q3, q4⟩ := HFX.out V hV; clear hV; go_simp; rfl)) | refine LeftL.tkN 10 rfl HS.out ?_
    (intro K' hK'; go_simp; refine hK' _ ?_; clear hK' K')
    first | ((first | refine LeftL.tkF (v := ?_) 11 rfl HS.out ?_ ?_ | refine LeftL.tkG (v := ?_) 11 rfl HS.out ?_ ?_); rotate_left; (· intro V hV; obtain ⟨q0, q1, q2, q3, q4⟩ := HFX.out V hV; clear hV; go_simp; rfl)) | refine LeftL.tkN 11 rfl HS.out ?_
    (intro K' hK'; go_simp; refine hK' _ ?_; clear hK' K')
    first | ((first | refine LeftL.tkF (v := ?_) 12 rfl HS.out ?_ ?_ | refine LeftL.tkG (v := ?_) 12 rfl HS.out ?_ ?_); rotate_left; (· intro V hV; obtain ⟨q0, q1, q2, q3, q4⟩ := HFX.out V hV; clear hV; go_simp; rfl)) | refine LeftL.tkN 12 rfl HS.out ?_
    (intro K' hK'; go_simp; refine hK' _ ?_; clear hK' K')
    refine LeftL.one 13 rfl (by kernel_rfl) ?_
    go_wp2_with fail
    refine (withS_any x i HX32.out (by have := HIN.out; have := HN12.out; omega) _).mono ?_; rintro e w' ⟨rfl, rfl⟩
    go_wp2_with fail
    first | refine ⟨fun _ => HS.out, ?_⟩ | refine ⟨HS.out, ?_⟩
    first | ((first | refine LeftL.tkF (v := ?_) 14 rfl HS.out ?_ ?_ | refine LeftL.tkG (v := ?_) 14 rfl HS.out ?_ ?_); rotate_left; (· intro V hV; obtain ⟨q0, q1, q2, q3, q4⟩ := HFX.out V hV; clear hV; go_simp; rfl)) | refine LeftL.tkN 14 rfl HS.out ?_
    (intro K' hK'; go_simp; refine hK' _ ?_; clear hK' K')
    obtain ⟨q0, q1, q2, q3, q4⟩ := HFX.out _ HS.out
    refine LeftL.one 15 rfl (by kernel_rfl) ?_
    go_wp2_with fail
    refine ⟨fun h => absurd rfl h, ?_⟩
    have hb6 := E1.out.set k (.int .u32 ((x ||| 1 <<< i : Nat) : Int))
    rw [setsC_set] at hb6
    have hb7 := Blk.drew hb6
    have hF6 : Frm W4.heap.size [b2] W4 (W4.setCell ⟨b2, k, none⟩ (.int .u32 ((x ||| 1 <<< i : Nat) : Int))).drew := ((Frm.refl _ _ W4).setCell (p := ⟨b2, k, none⟩) (.inl (by simp)) _).drew
    clear hb6 HS HFX q0 q1 q2 q3 q4
    generalize (W4.setCell ⟨b2, k, none⟩ (.int .u32 ((x ||| 1 <<< i : Nat) : Int))).drew = V6 at hb7 hF6 ⊢
    have hnx : bT A i (beforeS i a) (t + 1) = upd (bT A i (beforeS i a) t) k (x ||| 1 <<< i) := by rw [HX.out, HKK.out]; rfl
    rw [← hnx] at hb7
    have hz0 := HZ0.out
    have hz4 := HZ4.out
    have hzA := HZA.out
    have h2z := HB2Z.out
    have hzs := HZSB.out
    have hsN := HSNN.out
    have hkp : KeepY (N + 2) [b2] A0.heap.size W4 V6 := keepY_of hF6 hz4 (fun x hx _ => hx) (fun x hx => by simp at hx; omega)
    have h0 : Frm N [b2, sb] w1 V6 := E0.out.call hF6 (by omega) (fun x hx hm => by simp at hm ⊢; omega)
    refine LeftL.done (by kernel_rfl) ?_
    show KeepY (w1.heap.size + 2) _ _ _ _ ∧ _ ∧ SetJ n N i b2 sb A (beforeS i a) w1 (t + 1) _
    rw [← HNE.out]
    exact ⟨hkp, rfl, h0, hb7⟩
  case hdone =>
    rintro W2 _ ⟨j0, j1⟩ hD
    have hm2 : Marks w0.heap.size (mark1 w1.heap.size :: ds) W2 := HMK1.out.next HFW1.out.size (by rw [← HNE.out]; exact j0) (fun x hx r hr => by
      simp at hx
      rcases hx with rfl | rfl
      · exact blk_ne HB21.out hr
      · exact blk_ne HSB.out hr) hD
    have hf2 : Frm wz.heap.size [b2] wz W2 := HFZ1.out.call j0 (by have := HZSB.out; have := HSNN.out; omega) (fun x hx hm => by have := HZSB.out; simp at hm ⊢; omega)
    rw [HAA.out, HS.out, bT_done] at j1
    have hfin : i + 1 ≤ n ∧ (∀ j, j < i + 1 → (a j).testBit j = false) ∧ Frm wz.heap.size [b2] wz W2 ∧ Blk W2 b2 119 (setsC n (beforeS (i + 1) a)) ∧ Marks w0.heap.size (mark1 w1.heap.size :: ds) W2 := ⟨HIN.out, HALL.out, hf2, j1, hm2⟩
    clear hm2 hf2 j0 j1 hD
    have HFIN := Lib.hid hfin
    clear hfin
    dsimp only [Exit.inBlock, Exit.then]
    go_wp2_with fail
    (try simp only [w4x, w5x])
    exact ⟨⟨i + 1, _, _, _, _, _, _, _, _, _, _, _, _, _, _, _, _, _, _, _, _, _, _, _, _, _, _, _, _, _, _, _, _, HFIN.out, rfl⟩, HMS.out⟩
  case hstop =>
    intro t W2 _ h
    exact h.elim
end Go.Proofs.YtfmigicmfolbjaaDoor

namespace Go.Proofs.YtfmigicmfolbjaaDoor
set_option linter.all false
set_option linter.unusedSimpArgs false
set_option linter.unusedVariables false
open Go.RowKit

theorem made_sets (n : Nat) : madeCells #[Value.int .u32 0] n = (setsC n fun _ => 0).toArray := by
  apply Array.ext
  · simp [madeCells, setsC]
  · intro i h1 h2
    simp [madeCells, setsC, Nat.mod_one]
theorem run_make_sets (n : Nat) (hn : n ≤ 1000000) (w : World) : (Instr.makeSlice 114 (.int .i64 (n : Int)) (.int .i64 (n : Int))).run Tryd.prog w =
    .ok (.slice (some ⟨w.heap.size, 0, none⟩) n n) (w.alloc (.cells (setsC n fun _ => 0).toArray 119)) := by
  rw [← made_sets]
  exact run_make_row' 114 119 (.int .u32 0) 4 Tryd.underlying114 (by kernel_rfl) rfl .i64 .i64 n (by omega) (by omega) w
end Go.Proofs.YtfmigicmfolbjaaDoor
