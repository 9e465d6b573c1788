/-
  Texts S17 of this claim, one behind the other.
-/
import Derived.Test.YtfmigicmfolbjaaDoorB10
namespace Go.Proofs.YtfmigicmfolbjaaDoor
set_option linter.all false
set_option linter.unusedSimpArgs false
set_option linter.unusedVariables false
open Go.RowKit Go.Shelf

def edgeC (e : Int × Int) : List Value := [.int .i64 e.1, .int .i64 e.2]
theorem info78 : (Tryd.prog.info? 78).map (fun i => i.size) = some 2 := by kernel_rfl
theorem edges_pre {n k : Nat} {es : List (Int × Int)} (h : (es.take k).foldl (edgeO n) (some fun _ => 0) = none) : edgesO n es = none := by
  unfold edgesO
  rw [← List.take_append_drop k es, List.foldl_append, h, edgeO_none]
theorem edges_next {n k : Nat} {es : List (Int × Int)} {e : Int × Int} (hk : k < es.length) (he : e = es.getD k (0, 0)) : (es.take (k + 1)).foldl (edgeO n) (some fun _ => 0) = edgeO n ((es.take k).foldl (edgeO n) (some fun _ => 0)) e := by
  have h1 : es.take (k + 1) = es.take k ++ [e] := by
    rw [List.take_succ, he]
    simp [List.getD_eq_getElem?_getD, List.getElem?_eq_getElem hk]
  rw [h1, List.foldl_append]
  rfl
set_option maxRecDepth 100000 in
set_option maxHeartbeats 16000000 in
theorem edges_loop (es : List (Int × Int)) (ea : Option Addr) (eb eo ec n m p7 pb b3 st : Nat) (v1 v2 : Value) (hm : m = es.length) (hn12 : n ≤ 12) (w0 wz : World) (hw0 : Frm w0.heap.size [] w0 wz) (hst : Rw w0 2 ea eb eo es.length fun i => edgeC (es.getD i (0, 0)))
    (hp7 : Blk wz p7 108 [.pointer (some ⟨pb, 0, none⟩)]) (hpb : Blk wz pb 116 [.int .u32 (st : Int), v1, v2, .slice (some ⟨b3, 0, none⟩) n n]) (hb3 : Blk wz b3 119 (setsC n fun _ => 0)) (hw3 : w0.heap.size ≤ b3) (hne7 : p7 ≠ b3) (hneb : pb ≠ b3)
    (x0 x1 x2 x3 x4 x5 x8 x9 x10 x11 x12 x13 x14 x15 x16 x17 x18 x19 x20 x21 x22 x23 x24 x25 x26 x27 x28 x29 x30 x31 x32 x33 x34 x35 x36 x37 x38 x39 x40 x41 x42 x43 x44 x45 x46 x47 x48 x49 x50 x51 x52 x53 x54 x55 x56 x57 x58 x59 x60 x61 x62 x63 x64 x65 x66 x67 x68 x69 x70 x71 x72 x73 x74 x75 x76 x77 x78 x79 x80 x81 x82 x83 x84 x85 x86 x87 x88 x89 x90 x91 x92 x93 x94 x95 x96 x97 x98 x99 x100 x101 x102 x103 x104 x108 x109 x110 x111 x112 x113 x114 x115 x116 x117 x118 x119 x120 x121 x122 x123 x124 x125 x126 x127 x128 x129 x130 x131 x132 x133 x134 x135 x136 x137 x138 x139 x140 x141 x142 x143 x144 x145 x146 x147 x148 x149 x150 x151 x152 x153 x154 x155 x156 x157 x158 x159 x160 x161 x162 x163 x164 x165 x166 x167 x168 x169 x170 x171 x172 x173 x174 x175 x176 x177 x178 : Value) (Q0 : Exit → Act → World → Prop)
    (hno : edgesO n es = none → ∀ (u17 u107 u108 u109 u110 u111 u112 u113 u114 u115 u116 u117 u118 u119 u120 u121 u122 u123 u124 u125 u126 u127 u128 u129 u130 u131 u132 u133 u134 u135 u136 u137 u138 u139 u140 u141 u142 u143 : Value) (w' : World), Frm w0.heap.size [] w0 w' → Q0 .ret ⟨(List.toArray (x0 :: x1 :: .pointer none :: .bool false :: x4 :: x5 :: .int .i64 n :: .pointer (some ⟨p7, 0, none⟩) :: x8 :: x9 :: x10 :: x11 :: x12 :: x13 :: x14 :: x15 :: x16 :: u17 :: x18 :: x19 :: x20 :: x21 :: x22 :: x23 :: x24 :: x25 :: x26 :: x27 :: x28 :: x29 :: x30 :: x31 :: x32 :: x33 :: x34 :: x35 :: x36 :: x37 :: x38 :: x39 :: x40 :: x41 :: x42 :: x43 :: x44 :: x45 :: x46 :: x47 :: x48 :: x49 :: x50 :: x51 :: x52 :: x53 :: x54 :: x55 :: x56 :: x57 :: x58 :: x59 :: x60 :: x61 :: x62 :: x63 :: x64 :: x65 :: x66 :: x67 :: x68 :: x69 :: x70 :: x71 :: x72 :: x73 :: x74 :: x75 :: x76 :: x77 :: x78 :: x79 :: x80 :: x81 :: x82 :: x83 :: x84 :: x85 :: x86 :: x87 :: x88 :: x89 :: x90 :: x91 :: x92 :: x93 :: x94 :: x95 :: x96 :: x97 :: x98 :: x99 :: x100 :: x101 :: x102 :: x103 :: x104 :: .slice ea m ec :: .int .i64 m :: u107 :: u108 :: u109 :: u110 :: u111 :: u112 :: u113 :: u114 :: u115 :: u116 :: u117 :: u118 :: u119 :: u120 :: u121 :: u122 :: u123 :: u124 :: u125 :: u126 :: u127 :: u128 :: u129 :: u130 :: u131 :: u132 :: u133 :: u134 :: u135 :: u136 :: u137 :: u138 :: u139 :: u140 :: u141 :: u142 :: u143 :: x144 :: x145 :: x146 :: x147 :: x148 :: x149 :: x150 :: x151 :: x152 :: x153 :: x154 :: x155 :: x156 :: x157 :: x158 :: x159 :: x160 :: x161 :: x162 :: x163 :: x164 :: x165 :: x166 :: x167 :: x168 :: x169 :: x170 :: x171 :: x172 :: x173 :: x174 :: x175 :: x176 :: x177 :: x178 :: [])), []⟩ w')
    (hex : ∀ a, edgesO n es = some a → ∀ (u2 u3 u17 u107 u108 u109 u110 u111 u112 u113 u114 u115 u116 u117 u118 u119 u120 u121 u122 u123 u124 u125 u126 u127 u128 u129 u130 u131 u132 u133 u134 u135 u136 u137 u138 u139 u140 u141 u142 u143 : Value) (w' : World), Frm wz.heap.size [b3] wz w' → Blk w' b3 119 (setsC n a) → Q0 (.exit 2) ⟨(List.toArray (x0 :: x1 :: u2 :: u3 :: x4 :: x5 :: .int .i64 n :: .pointer (some ⟨p7, 0, none⟩) :: x8 :: x9 :: x10 :: x11 :: x12 :: x13 :: x14 :: x15 :: x16 :: u17 :: x18 :: x19 :: x20 :: x21 :: x22 :: x23 :: x24 :: x25 :: x26 :: x27 :: x28 :: x29 :: x30 :: x31 :: x32 :: x33 :: x34 :: x35 :: x36 :: x37 :: x38 :: x39 :: x40 :: x41 :: x42 :: x43 :: x44 :: x45 :: x46 :: x47 :: x48 :: x49 :: x50 :: x51 :: x52 :: x53 :: x54 :: x55 :: x56 :: x57 :: x58 :: x59 :: x60 :: x61 :: x62 :: x63 :: x64 :: x65 :: x66 :: x67 :: x68 :: x69 :: x70 :: x71 :: x72 :: x73 :: x74 :: x75 :: x76 :: x77 :: x78 :: x79 :: x80 :: x81 :: x82 :: x83 :: x84 :: x85 :: x86 :: x87 :: x88 :: x89 :: x90 :: x91 :: x92 :: x93 :: x94 :: x95 :: x96 :: x97 :: x98 :: x99 :: x100 :: x101 :: x102 :: x103 :: x104 :: .slice ea m ec :: .int .i64 m :: u107 :: u108 :: u109 :: u110 :: u111 :: u112 :: u113 :: u114 :: u115 :: u116 :: u117 :: u118 :: u119 :: u120 :: u121 :: u122 :: u123 :: u124 :: u125 :: u126 :: u127 :: u128 :: u129 :: u130 :: u131 :: u132 :: u133 :: u134 :: u135 :: u136 :: u137 :: u138 :: u139 :: u140 :: u141 :: u142 :: u143 :: x144 :: x145 :: x146 :: x147 :: x148 :: x149 :: x150 :: x151 :: x152 :: x153 :: x154 :: x155 :: x156 :: x157 :: x158 :: x159 :: x160 :: x161 :: x162 :: x163 :: x164 :: x165 :: x166 :: x167 :: x168 :: x169 :: x170 :: x171 :: x172 :: x173 :: x174 :: x175 :: x176 :: x177 :: x178 :: [])), []⟩ w') :
    Code.wp Tryd.prog (Code.loop (loopOf Tryd.f68.body 1)) (NoP Q0) ⟨(List.toArray (x0 :: x1 :: x2 :: x3 :: x4 :: x5 :: .int .i64 n :: .pointer (some ⟨p7, 0, none⟩) :: x8 :: x9 :: x10 :: x11 :: x12 :: x13 :: x14 :: x15 :: x16 :: x17 :: x18 :: x19 :: x20 :: x21 :: x22 :: x23 :: x24 :: x25 :: x26 :: x27 :: x28 :: x29 :: x30 :: x31 :: x32 :: x33 :: x34 :: x35 :: x36 :: x37 :: x38 :: x39 :: x40 :: x41 :: x42 :: x43 :: x44 :: x45 :: x46 :: x47 :: x48 :: x49 :: x50 :: x51 :: x52 :: x53 :: x54 :: x55 :: x56 :: x57 :: x58 :: x59 :: x60 :: x61 :: x62 :: x63 :: x64 :: x65 :: x66 :: x67 :: x68 :: x69 :: x70 :: x71 :: x72 :: x73 :: x74 :: x75 :: x76 :: x77 :: x78 :: x79 :: x80 :: x81 :: x82 :: x83 :: x84 :: x85 :: x86 :: x87 :: x88 :: x89 :: x90 :: x91 :: x92 :: x93 :: x94 :: x95 :: x96 :: x97 :: x98 :: x99 :: x100 :: x101 :: x102 :: x103 :: x104 :: .slice ea m ec :: .int .i64 m :: .int .i64 0 :: x108 :: x109 :: x110 :: x111 :: x112 :: x113 :: x114 :: x115 :: x116 :: x117 :: x118 :: x119 :: x120 :: x121 :: x122 :: x123 :: x124 :: x125 :: x126 :: x127 :: x128 :: x129 :: x130 :: x131 :: x132 :: x133 :: x134 :: x135 :: x136 :: x137 :: x138 :: x139 :: x140 :: x141 :: x142 :: x143 :: x144 :: x145 :: x146 :: x147 :: x148 :: x149 :: x150 :: x151 :: x152 :: x153 :: x154 :: x155 :: x156 :: x157 :: x158 :: x159 :: x160 :: x161 :: x162 :: x163 :: x164 :: x165 :: x166 :: x167 :: x168 :: x169 :: x170 :: x171 :: x172 :: x173 :: x174 :: x175 :: x176 :: x177 :: x178 :: [])), []⟩ wz := by
  have hf0 := Tryd.func68
  clear hf0
  have hb3z : b3 < wz.heap.size := hb3.lt
  have hpz : pb < wz.heap.size := hpb.lt
  have hp7z : p7 < wz.heap.size := hp7.lt
  have hlen : m ≤ maxLen := by rw [hm]; exact hst.len
  have hnw1 : IntKind.i64.wrap ((n : Int) - 1) = (n : Int) - 1 := IntWalk.i64_in _ (by omega)
  have hnw2 : wrap64 ((n : Int) - 1) = (n : Int) - 1 := IntWalk.wrap64_in _ (by omega)
  have HM := Lib.hid hm
  have HN12 := Lib.hid hn12
  have HW0 := Lib.hid hw0
  have HST := Lib.hid hst
  have HP7 := Lib.hid hp7
  have HPB := Lib.hid hpb
  have HB3 := Lib.hid hb3
  have HW3 := Lib.hid hw3
  have HNE7 := Lib.hid hne7
  have HNEB := Lib.hid hneb
  have HNO := Lib.hid hno
  have HEX := Lib.hid hex
  have HPZ := Lib.hid hpz
  have HP7Z := Lib.hid hp7z
  have HB3Z := Lib.hid hb3z
  have HLEN := Lib.hid hlen
  clear hlen hb3z hp7z hpz hex hno hneb hne7 hw3 hb3 hpb hp7 hst hw0 hn12 hm
  conv => arg 2; arg 1; whnf
  go_loopw [107] (fun s107 wr => ∃ k : Nat, s107 = .int .i64 k ∧ k ≤ m ∧ Frm wz.heap.size [b3] wz wr ∧ ∃ a : Nat → Nat, (es.take k).foldl (edgeO n) (some fun _ => 0) = some a ∧ Blk wr b3 119 (setsC n a)) (fun s107 _ => m - (intOf s107).toNat)
  case atStart => exact ⟨0, rfl, Nat.zero_le _, Frm.refl _ _ _, _, rfl, HB3.out⟩
  case round =>
    obtain ⟨k, rfl, hk, hfr, a, ha, hbr⟩ := hrel
    have hfw : Frm w0.heap.size [] w0 wr := HW0.out.call hfr HW0.out.size (fun x hx hm => by simp at hm; have := HW3.out; omega)
    by_cases hkn : k < m
    · have hkn' : (k : Int) < (m : Int) := by omega
      have hkR : k < es.length := by have := HM.out; omega
      have h7r := hfr.blk HP7.out HP7Z.out (by simpa using HNE7.out)
      have hbb := hfr.blk HPB.out HPZ.out (by simpa using HNEB.out)
      obtain ⟨w4x, w5x⟩ := wrapUp hkn HLEN.out
      have hms := meas_up hkn
      obtain ⟨e, he⟩ : ∃ r, r = es.getD k (0, 0) := ⟨_, rfl⟩
      obtain ⟨A, B⟩ := e
      have hst := HST.out.frm hfw (Nat.le_refl _)
      have had := hst.ad (by omega)
      subst had
      have hlo : (loadVar 78 ⟨eb, eo + k * 2, none⟩).run Tryd.prog wr = .ok (.agg (edgeC (A, B)).toArray) wr := by
        rw [he]
        exact hst.load (P := Tryd.prog) Tryd.underlying78 rfl hkR info78
      have hnx := edges_next (n := n) hkR he
      rw [ha] at hnx
      have hal : ∀ j, j < n → a j < 2 ^ n := edges_lt _ (fun _ => 0) a (fun j _ => Nat.pow_pos (by omega)) ha
      clear hst
      have HAA := Lib.hid ha
      have HFR := Lib.hid hfr
      have HBR := Lib.hid hbr
      have HFW := Lib.hid hfw
      have H7R := Lib.hid h7r
      have HBB := Lib.hid hbb
      have HKN := Lib.hid hkn
      have HKR := Lib.hid hkR
      have HMS := Lib.hid hms
      have HE := Lib.hid he
      have HLO := Lib.hid hlo
      have HNX := Lib.hid hnx
      have HAL := Lib.hid hal
      clear hal hnx hlo he hms hkR hkn hbb h7r hfw hbr hfr ha
      go_wp2_with (first | (with_reducible refine atLoad 78 rfl ?_; refine wpList_loadE rfl rfl rfl HLO.out ?_) | (with_reducible refine atStore 78 rfl ?_; refine stop_ ?_))
      refine go_on ?_
      refine wpList_storeNew (P := Tryd.prog) (cs := edgeC (A, B)) rfl rfl rfl rfl rfl info78 (by simp [edgeC, Value.oneCell']) ?_
      intro V1 hf1 k1 hz1
      obtain ⟨q, hq⟩ : ∃ q, q = wr.heap.size := ⟨_, rfl⟩
      have hfV : Frm w0.heap.size [] w0 V1 := HFW.out.call hf1 HFW.out.size (by simp)
      have hfz := HFR.out.call hf1 HFR.out.size (by simp)
      have hbV := hf1.blk HBR.out HBR.out.lt (by simp)
      have hbb := hf1.blk HBB.out HBB.out.lt (by simp)
      have h7V := hf1.blk H7R.out H7R.out.lt (by simp)
      have hqV : q < V1.heap.size := by rw [hq]; exact k1.lt
      rw [← hq] at k1 ⊢
      have c0 : V1.cell? ⟨q, 0, none⟩ = some (.int .i64 A) := k1.cell 0
      have c1 : V1.cell? ⟨q, 1, none⟩ = some (.int .i64 B) := k1.cell 1
      clear hf1 hz1 hq HFW HFR HBR H7R HLO HBB
      have K1 := Lib.hid k1
      have HFW := Lib.hid hfV
      have HFR := Lib.hid hfz
      have HBR := Lib.hid hbV
      have H7R := Lib.hid h7V
      have HQV := Lib.hid hqV
      have HBB := Lib.hid hbb
      clear hbb hqV h7V hbV hfz hfV k1
      cases hA : inB A 0 ((n : Int) - 1)
      · have hso : edgesO n es = none := edges_pre (k := k + 1) (by rw [HNX.out]; unfold edgeO; dsimp only; rw [hA]; rfl)
        have HSO := Lib.hid hso
        have HAI := Lib.hid hA
        clear hA hso
        go_wp2_with (go_at_call 53; refine (within_any _ _ _ _).mono ?_; rintro e w' ⟨rfl, rfl⟩; rw [HAI.out])
        exact HNO.out HSO.out _ _ _ _ _ _ _ _ _ _ _ _ _ _ _ _ _ _ _ _ _ _ _ _ _ _ _ _ _ _ _ _ _ _ _ _ _ _ V1 HFW.out
      cases hB : inB B 0 ((n : Int) - 1)
      · have hso : edgesO n es = none := edges_pre (k := k + 1) (by rw [HNX.out]; unfold edgeO; dsimp only; rw [hA, hB]; rfl)
        have HSO := Lib.hid hso
        have HAI := Lib.hid hA
        have HBI := Lib.hid hB
        clear hB hA hso
        go_wp2_with (go_at_call 53; refine (within_any _ _ _ _).mono ?_; rintro e w' ⟨rfl, rfl⟩; first | rw [HAI.out] | rw [HBI.out])
        exact HNO.out HSO.out _ _ _ _ _ _ _ _ _ _ _ _ _ _ _ _ _ _ _ _ _ _ _ _ _ _ _ _ _ _ _ _ _ _ _ _ _ _ V1 HFW.out
      have hA0 := inB_iff.1 hA
      have hB0 := inB_iff.1 hB
      obtain ⟨i, rfl⟩ : ∃ i : Nat, A = i := ⟨A.toNat, by omega⟩
      obtain ⟨j, rfl⟩ : ∃ j : Nat, B = j := ⟨B.toNat, by omega⟩
      have hin : i < n := by omega
      have hjn : j < n := by omega
      have hin' : (i : Int) < (n : Int) := by omega
      have hnx : (es.take (k + 1)).foldl (edgeO n) (some fun _ => 0) = some (upd a i (a i ||| 1 <<< j)) := by
        rw [HNX.out]; unfold edgeO; dsimp only; rw [hA, hB]; rfl
      obtain ⟨s, hs⟩ : ∃ s, s = a i := ⟨_, rfl⟩
      have hs12 : s < 4294967296 := by
        have h1 := HAL.out i hin
        have h2 : 2 ^ n ≤ 2 ^ 12 := Nat.pow_le_pow_right (by omega) HN12.out
        rw [← hs] at h1
        omega
      have hfx : ∀ V, Frm V1.heap.size [] V1 V → V.cell? ⟨p7, 0, none⟩ = some (.pointer (some ⟨pb, 0, none⟩)) ∧ V.cell? ⟨pb, 3, none⟩ = some (.slice (some ⟨b3, 0, none⟩) n n) ∧ V.cell? ⟨q, 0, none⟩ = some (.int .i64 (i : Int)) ∧ V.cell? ⟨q, 1, none⟩ = some (.int .i64 (j : Int)) ∧ V.cell? ⟨b3, i, none⟩ = some (.int .u32 (s : Int)) ∧ V.frozen? ⟨b3, i, none⟩ = false := fun V hV => by
        have hb := hV.blk HBR.out HBR.out.lt (by simp)
        have hq := hV.blk K1.out K1.out.lt (by simp)
        exact ⟨(hV.blk H7R.out H7R.out.lt (by simp)).cell 0, (hV.blk HBB.out HBB.out.lt (by simp)).cell 3, hq.cell 0, hq.cell 1, by rw [hs]; exact sets_cell hb hin, hb.free i⟩
      rw [← hs] at hnx
      clear hA0 hB0
      have HAI := Lib.hid hA
      have HBI := Lib.hid hB
      have HIN := Lib.hid hin
      have HJN := Lib.hid hjn
      have HNX2 := Lib.hid hnx
      have HS0 := Lib.hid hs
      have HS12 := Lib.hid hs12
      have HFX := Lib.hid hfx
      clear hfx hs12 hs hnx hjn hin hB hA
      go_upto_region 21 with (go_at_call 53; refine (within_any _ _ _ _).mono ?_; rintro e w' ⟨rfl, rfl⟩; first | rw [HAI.out] | rw [HBI.out])
      refine wp_region_leftL (fun V => Frm V1.heap.size [] V1 V) 18 (by kernel_rfl) ?_
      have hS : Frm V1.heap.size [] V1 V1.drew := (Frm.refl _ _ V1).drew
      have HS := Lib.hid hS
      clear hS
      first | ((first | refine LeftL.tkF (v := ?_) 0 rfl HS.out ?_ ?_ | refine LeftL.tkG (v := ?_) 0 rfl HS.out ?_ ?_); rotate_left; (· intro V hV; obtain ⟨q0, q1, q2, q3, q4, q5⟩ := HFX.out V hV; clear hV; go_simp; rfl)) | refine LeftL.tkN 0 rfl HS.out ?_
      (intro K' hK'; go_simp; refine hK' _ ?_; clear hK' K')
      first | ((first | refine LeftL.tkF (v := ?_) 1 rfl HS.out ?_ ?_ | refine LeftL.tkG (v := ?_) 1 rfl HS.out ?_ ?_); rotate_left; (· intro V hV; obtain ⟨q0, q1, q2, q3, q4, q5⟩ := HFX.out V hV; clear hV; go_simp; rfl)) | refine LeftL.tkN 1 rfl HS.out ?_
      (intro K' hK'; go_simp; refine hK' _ ?_; clear hK' K')
      first | ((first | refine LeftL.tkF (v := ?_) 2 rfl HS.out ?_ ?_ | refine LeftL.tkG (v := ?_) 2 rfl HS.out ?_ ?_); rotate_left; (· intro V hV; obtain ⟨q0, q1, q2, q3, q4, q5⟩ := HFX.out V hV; clear hV; go_simp; rfl)) | refine LeftL.tkN 2 rfl HS.out ?_
      (intro K' hK'; go_simp; refine hK' _ ?_; clear hK' K')
      first | ((first | refine LeftL.tkF (v := ?_) 3 rfl HS.out ?_ ?_ | refine LeftL.tkG (v := ?_) 3 rfl HS.out ?_ ?_); rotate_left; (· intro V hV; obtain ⟨q0, q1, q2, q3, q4, q5⟩ := HFX.out V hV; clear hV; go_simp; rfl)) | refine LeftL.tkN 3 rfl HS.out ?_
      (intro K' hK'; go_simp; refine hK' _ ?_; clear hK' K')
      first | ((first | refine LeftL.tkF (v := ?_) 4 rfl HS.out ?_ ?_ | refine LeftL.tkG (v := ?_) 4 rfl HS.out ?_ ?_); rotate_left; (· intro V hV; obtain ⟨q0, q1, q2, q3, q4, q5⟩ := HFX.out V hV; clear hV; go_simp; rfl)) | refine LeftL.tkN 4 rfl HS.out ?_
      (intro K' hK'; go_simp; refine hK' _ ?_; clear hK' K')
      first | ((first | refine LeftL.tkF (v := ?_) 5 rfl HS.out ?_ ?_ | refine LeftL.tkG (v := ?_) 5 rfl HS.out ?_ ?_); rotate_left; (· intro V hV; obtain ⟨q0, q1, q2, q3, q4, q5⟩ := HFX.out V hV; clear hV; go_simp; rfl)) | refine LeftL.tkN 5 rfl HS.out ?_
      (intro K' hK'; go_simp; refine hK' _ ?_; clear hK' K')
      first | ((first | refine LeftL.tkF (v := ?_) 6 rfl HS.out ?_ ?_ | refine LeftL.tkG (v := ?_) 6 rfl HS.out ?_ ?_); rotate_left; (· intro V hV; obtain ⟨q0, q1, q2, q3, q4, q5⟩ := HFX.out V hV; clear hV; go_simp; rfl)) | refine LeftL.tkN 6 rfl HS.out ?_
      (intro K' hK'; go_simp; refine hK' _ ?_; clear hK' K')
      first | ((first | refine LeftL.tkF (v := ?_) 7 rfl HS.out ?_ ?_ | refine LeftL.tkG (v := ?_) 7 rfl HS.out ?_ ?_); rotate_left; (· intro V hV; obtain ⟨q0, q1, q2, q3, q4, q5⟩ := HFX.out V hV; clear hV; go_simp; rfl)) | refine LeftL.tkN 7 rfl HS.out ?_
      (intro K' hK'; go_simp; refine hK' _ ?_; clear hK' K')
      first | ((first | refine LeftL.tkF (v := ?_) 8 rfl HS.out ?_ ?_ | refine LeftL.tkG (v := ?_) 8 rfl HS.out ?_ ?_); rotate_left; (· intro V hV; obtain ⟨q0, q1, q2, q3, q4, q5⟩ := HFX.out V hV; clear hV; go_simp; rfl)) | refine LeftL.tkN 8 rfl HS.out ?_
      (intro K' hK'; go_simp; refine hK' _ ?_; clear hK' K')
      first | ((first | refine LeftL.tkF (v := ?_) 9 rfl HS.out ?_ ?_ | refine LeftL.tkG (v := ?_) 9 rfl HS.out ?_ ?_); rotate_left; (· intro V hV; obtain ⟨q0, q1, q2, q3, q4, q5⟩ := HFX.out V hV; clear hV; go_simp; rfl)) | refine LeftL.tkN 9 rfl HS.out ?_
      (intro K' hK'; go_simp; refine hK' _ ?_; clear hK' K')
      first | ((first | refine LeftL.tkF (v := ?_) 10 rfl HS.out ?_ ?_ | refine LeftL.tkG (v := ?_) 10 rfl HS.out ?_ ?_); rotate_left; (· intro V hV; obtain ⟨q0, q1, q2, q3, q4, q5⟩ := HFX.out V hV; clear hV; go_simp; rfl)) | refine LeftL.tkN 10 rfl HS.out ?_
      (intro K' hK'; go_simp; refine hK' _ ?_; clear hK' K')
      first | ((first | refine LeftL.tkF (v := ?_) 11 rfl HS.out ?_ ?_ | refine LeftL.tkG (v := ?_) 11 rfl HS.out ?_ ?_); rotate_left; (· intro V hV; obtain ⟨q0, q1, q2, q3, q4, q5⟩ := HFX.out V hV; clear hV; go_simp; rfl)) | refine LeftL.tkN 11 rfl HS.out ?_
      (intro K' hK'; go_simp; refine hK' _ ?_; clear hK' K')
      first | ((first | refine LeftL.tkF (v := ?_) 12 rfl HS.out ?_ ?_ | refine LeftL.tkG (v := ?_) 12 rfl HS.out ?_ ?_); rotate_left; (· intro V hV; obtain ⟨q0, q1, q2, q3, q4, q5⟩ := HFX.out V hV; clear hV; go_simp; rfl)) | refine LeftL.tkN 12 rfl HS.out ?_
      (intro K' hK'; go_simp; refine hK' _ ?_; clear hK' K')
      first | ((first | refine LeftL.tkF (v := ?_) 13 rfl HS.out ?_ ?_ | refine LeftL.tkG (v := ?_) 13 rfl HS.out ?_ ?_); rotate_left; (· intro V hV; obtain ⟨q0, q1, q2, q3, q4, q5⟩ := HFX.out V hV; clear hV; go_simp; rfl)) | refine LeftL.tkN 13 rfl HS.out ?_
      (intro K' hK'; go_simp; refine hK' _ ?_; clear hK' K')
      first | ((first | refine LeftL.tkF (v := ?_) 14 rfl HS.out ?_ ?_ | refine LeftL.tkG (v := ?_) 14 rfl HS.out ?_ ?_); rotate_left; (· intro V hV; obtain ⟨q0, q1, q2, q3, q4, q5⟩ := HFX.out V hV; clear hV; go_simp; rfl)) | refine LeftL.tkN 14 rfl HS.out ?_
      (intro K' hK'; go_simp; refine hK' _ ?_; clear hK' K')
      first | ((first | refine LeftL.tkF (v := ?_) 15 rfl HS.out ?_ ?_ | refine LeftL.tkG (v := ?_) 15 rfl HS.out ?_ ?_); rotate_left; (· intro V hV; obtain ⟨q0, q1, q2, q3, q4, q5⟩ := HFX.out V hV; clear hV; go_simp; rfl)) | refine LeftL.tkN 15 rfl HS.out ?_
      (intro K' hK'; go_simp; refine hK' _ ?_; clear hK' K')
      refine LeftL.one 16 rfl (by kernel_rfl) ?_
      go_wp2_with fail
      refine (withS_any s j HS12.out (by have := HJN.out; have := HN12.out; omega) _).mono ?_; rintro e w' ⟨rfl, rfl⟩
      go_wp2_with fail
      first | refine ⟨fun _ => HS.out, ?_⟩ | refine ⟨HS.out, ?_⟩
      first | ((first | refine LeftL.tkF (v := ?_) 17 rfl HS.out ?_ ?_ | refine LeftL.tkG (v := ?_) 17 rfl HS.out ?_ ?_); rotate_left; (· intro V hV; obtain ⟨q0, q1, q2, q3, q4, q5⟩ := HFX.out V hV; clear hV; go_simp; rfl)) | refine LeftL.tkN 17 rfl HS.out ?_
      (intro K' hK'; go_simp; refine hK' _ ?_; clear hK' K')
      obtain ⟨q0, q1, q2, q3, q4, q5⟩ := HFX.out _ HS.out
      refine LeftL.one 18 rfl (by kernel_rfl) ?_
      go_wp2_with fail
      refine ⟨fun h => absurd rfl h, ?_⟩
      have hb6 := HBR.out.set i (.int .u32 ((s ||| 1 <<< j : Nat) : Int))
      rw [setsC_set] at hb6
      have hb7 := Blk.drew hb6
      have hf7 : Frm wz.heap.size [b3] wz (V1.setCell ⟨b3, i, none⟩ (.int .u32 ((s ||| 1 <<< j : Nat) : Int))).drew := (HFR.out.setCell (p := ⟨b3, i, none⟩) (.inl (by simp)) _).drew
      clear hb6 HS HFX q0 q1 q2 q3 q4 q5
      generalize (V1.setCell ⟨b3, i, none⟩ (.int .u32 ((s ||| 1 <<< j : Nat) : Int))).drew = V6 at hb7 hf7 ⊢
      have hfin : ∃ k' : Nat, Value.int .i64 ((k : Int) + 1) = .int .i64 k' ∧ k' ≤ m ∧ Frm wz.heap.size [b3] wz V6 ∧ ∃ a : Nat → Nat, (es.take k').foldl (edgeO n) (some fun _ => 0) = some a ∧ Blk V6 b3 119 (setsC n a) :=
        ⟨k + 1, by simp, HKN.out, hf7, _, HNX2.out, hb7⟩
      clear hb7 hf7
      have HFIN := Lib.hid hfin
      clear hfin
      refine LeftL.done (by kernel_rfl) ?_
      go_wp2_with fail
      (try simp only [w4x, w5x])
      exact ⟨HFIN.out, HMS.out⟩
    · have hkn' : ¬ (k : Int) < (m : Int) := by omega
      obtain rfl : k = m := by omega
      have hall : edgesO n es = some a := by rw [HM.out, List.take_length] at ha; exact ha
      have HALL := Lib.hid hall
      have HFR := Lib.hid hfr
      have HBR := Lib.hid hbr
      clear hbr hfr hall
      go_wp2_with fail
      exact HEX.out a HALL.out _ _ _ _ _ _ _ _ _ _ _ _ _ _ _ _ _ _ _ _ _ _ _ _ _ _ _ _ _ _ _ _ _ _ _ _ _ _ _ _ wr HFR.out HBR.out
end Go.Proofs.YtfmigicmfolbjaaDoor
