/-
  Texts S22 of this claim, one behind the other.
-/
import Derived.Test.YtfmigicmfolbjaaDoorB14
namespace Go.Proofs.YtfmigicmfolbjaaDoor
set_option linter.all false
set_option linter.unusedSimpArgs false
set_option linter.unusedVariables false
open Go.RowKit Go.Shelf

theorem viaR1 {P : Program} {c : Code} {Q : Exit → Act → World → Prop} {a : Act} {w : World} {F : Nat → Act} (L : Nat → World → Prop) (h1 : (∀ x w', L x w' → Q .normal (F x) w') → c.wp P Q a w) (h2 : ∀ x w', L x w' → Q .normal (F x) w') : c.wp P Q a w := h1 h2
theorem wpList_storeNewB {P : Program} {ops : Array Oper} {rest : List Oper} {o : Oper} {a : Act} {w : World} {Q : Exit → Act → World → Prop} (hgd : o.guard = none) {ty : TypeId} {x y : Operand} (ho : o.op = .store ty x y)
    {T b : Nat} {zs cs : List Value} (hw : w.heap.size = b) (hx : a.eval x = .pointer (some ⟨b, 0, none⟩)) (hy : a.eval y = .agg cs.toArray) (hl : zs.length = cs.length) (hi : (P.info? ty).map (·.size) = some cs.length)
    (h1 : ∀ v ∈ cs, v.oneCell' = true) (h : ∀ W', Frm w.heap.size [] w W' → Blk W' b T cs → wpList P ops Q rest (a.put o.dst undef) W') :
    wpList P ops Q (o :: rest) a (w.alloc (.cells zs.toArray T (0, 0))) := by
  subst hw
  exact wpList_storeNew hgd ho hx hy hl hi h1 fun W' h2 h3 _ => h W' h2 h3
def SndJ (N sb : Nat) (w1 : World) (_ : Nat) (V : World) : Prop := Frm N [sb] w1 V
structure SndX (N sb r2 r3 r4 i : Nat) (A : List Nat) (w1 : World) (t : Nat) (V : World) : Prop where
  fr : Frm N [sb, r2, r3, r4] w1 V
  k2 : Blk V r2 3 [.int .i64 (i : Int)]
  k3 : Blk V r3 3 [.int .i64 ((A.getD t 0 : Nat) : Int)]
  k4 : Blk V r4 27 [.int .i64 9]
def sndR (len : Nat) (cont : Nat → Bool) (o : Option Nat) (_ : World) : Prop := match o with
  | none => ∀ i, i < len → cont i = true
  | some i => i < len ∧ (∀ k, k < i → cont k = true) ∧ cont i = false
set_option maxRecDepth 100000 in
set_option maxHeartbeats 16000000 in
theorem sound_loop (n pb p5 r2 r3 r4 : Nat) (q : PP) (P : PL) (hok : PLOK P) (hn : n = P.n) (w0 wz : World) (hg : Glob w0) (hw0 : Frm w0.heap.size [] w0 wz) (hpl : PlAt wz pb q P)
    (hp5 : Blk wz p5 108 [.pointer (some ⟨pb, 0, none⟩)]) (hr2 : Blk wz r2 3 [.int .i64 0]) (hr3 : Blk wz r3 3 [.int .i64 0]) (hr4 : Blk wz r4 27 [.int .i64 0])
    (hl2 : w0.heap.size ≤ r2) (hl3 : w0.heap.size ≤ r3) (hl4 : w0.heap.size ≤ r4) (h23 : r2 ≠ r3) (h24 : r2 ≠ r4) (h34 : r3 ≠ r4)
    (x0 x1 x6 x7 x8 x9 x10 x11 x12 x13 x14 x15 x16 x17 x18 x19 x20 x24 x25 x26 x27 x28 x29 x30 x31 x32 x33 x34 x35 x36 x37 x38 x39 x40 x41 x42 x43 x44 x45 x46 x47 x48 x49 x50 x51 x52 x53 x54 x55 x56 x57 x58 x59 : Value) (Q0 : Exit → Act → World → Prop)
    (hno : ∀ i f, soundO P = some (i, f) → ∀ (u7 u8 u9 u10 u23 u24 u25 u26 u27 u28 u29 u30 u31 u32 u33 u34 u35 u36 u37 u38 u39 u40 u41 u42 u43 u44 u45 u46 u47 u48 u49 u50 u51 u52 u53 u54 u55 u56 u57 u58 u59 : Value) (ds : List Deferred) (w' : World), Frm w0.heap.size [] w0 w' → Blk w' r2 3 [.int .i64 (i : Int)] → Blk w' r3 3 [.int .i64 (f : Int)] → Blk w' r4 27 [.int .i64 9] → Marks w0.heap.size ds w' → Q0 .ret ⟨(List.toArray (x0 :: x1 :: .pointer (some ⟨r2, 0, none⟩) :: .pointer (some ⟨r3, 0, none⟩) :: .pointer (some ⟨r4, 0, none⟩) :: .pointer (some ⟨p5, 0, none⟩) :: x6 :: u7 :: u8 :: u9 :: u10 :: x11 :: x12 :: x13 :: x14 :: x15 :: x16 :: x17 :: x18 :: x19 :: x20 :: .slice q.a1 n q.c1 :: .int .i64 n :: u23 :: u24 :: u25 :: u26 :: u27 :: u28 :: u29 :: u30 :: u31 :: u32 :: u33 :: u34 :: u35 :: u36 :: u37 :: u38 :: u39 :: u40 :: u41 :: u42 :: u43 :: u44 :: u45 :: u46 :: u47 :: u48 :: u49 :: u50 :: u51 :: u52 :: u53 :: u54 :: u55 :: u56 :: u57 :: u58 :: u59 :: [])), ds⟩ w')
    (hex : soundO P = none → ∀ (u7 u8 u9 u10 u23 u24 u25 u26 u27 u28 u29 u30 u31 u32 u33 u34 u35 u36 u37 u38 u39 u40 u41 u42 u43 u44 u45 u46 u47 u48 u49 u50 u51 u52 u53 u54 u55 u56 u57 u58 u59 : Value) (ds : List Deferred) (w' : World), Frm wz.heap.size [] wz w' → Marks w0.heap.size ds w' → Q0 (.exit 0) ⟨(List.toArray (x0 :: x1 :: .pointer (some ⟨r2, 0, none⟩) :: .pointer (some ⟨r3, 0, none⟩) :: .pointer (some ⟨r4, 0, none⟩) :: .pointer (some ⟨p5, 0, none⟩) :: x6 :: u7 :: u8 :: u9 :: u10 :: x11 :: x12 :: x13 :: x14 :: x15 :: x16 :: x17 :: x18 :: x19 :: x20 :: .slice q.a1 n q.c1 :: .int .i64 n :: u23 :: u24 :: u25 :: u26 :: u27 :: u28 :: u29 :: u30 :: u31 :: u32 :: u33 :: u34 :: u35 :: u36 :: u37 :: u38 :: u39 :: u40 :: u41 :: u42 :: u43 :: u44 :: u45 :: u46 :: u47 :: u48 :: u49 :: u50 :: u51 :: u52 :: u53 :: u54 :: u55 :: u56 :: u57 :: u58 :: u59 :: [])), ds⟩ w') :
    Code.wp Tryd.prog (Code.loop (loopOf Tryd.f34.body 0)) (NoP Q0) ⟨(List.toArray (x0 :: x1 :: .pointer (some ⟨r2, 0, none⟩) :: .pointer (some ⟨r3, 0, none⟩) :: .pointer (some ⟨r4, 0, none⟩) :: .pointer (some ⟨p5, 0, none⟩) :: x6 :: x7 :: x8 :: x9 :: x10 :: x11 :: x12 :: x13 :: x14 :: x15 :: x16 :: x17 :: x18 :: x19 :: x20 :: .slice q.a1 n q.c1 :: .int .i64 n :: .int .i64 0 :: x24 :: x25 :: x26 :: x27 :: x28 :: x29 :: x30 :: x31 :: x32 :: x33 :: x34 :: x35 :: x36 :: x37 :: x38 :: x39 :: x40 :: x41 :: x42 :: x43 :: x44 :: x45 :: x46 :: x47 :: x48 :: x49 :: x50 :: x51 :: x52 :: x53 :: x54 :: x55 :: x56 :: x57 :: x58 :: x59 :: [])), []⟩ wz := by
  have hf0 := Tryd.func34
  have e3 : Enters 102 := enters Tryd.func102 (by kernel_rfl) (by kernel_rfl)
  clear hf0
  have hn12 := hok.n
  rw [← hn] at hn12
  have hlen : n ≤ maxLen := by unfold maxLen; omega
  have hz2 := hr2.lt
  have hz3 := hr3.lt
  have hz4 := hr4.lt
  have hz5 := hp5.lt
  have hzb := hpl.box.lt
  have HOK := Lib.hid hok
  have HN := Lib.hid hn
  have HG := Lib.hid hg
  have HW0 := Lib.hid hw0
  have HPL := Lib.hid hpl
  have HP5 := Lib.hid hp5
  have HR2 := Lib.hid hr2
  have HR3 := Lib.hid hr3
  have HR4 := Lib.hid hr4
  have HL2 := Lib.hid hl2
  have HL3 := Lib.hid hl3
  have HL4 := Lib.hid hl4
  have H23 := Lib.hid h23
  have H24 := Lib.hid h24
  have H34 := Lib.hid h34
  have HNO := Lib.hid hno
  have HEX := Lib.hid hex
  have E3 := Lib.hid e3
  have HN12 := Lib.hid hn12
  have HLEN := Lib.hid hlen
  have HZ2 := Lib.hid hz2
  have HZ3 := Lib.hid hz3
  have HZ4 := Lib.hid hz4
  have HZ5 := Lib.hid hz5
  have HZB := Lib.hid hzb
  clear hzb hz5 hz4 hz3 hz2 hlen hn12 e3 hex hno h34 h24 h23 hl4 hl3 hl2 hr4 hr3 hr2 hp5 hpl hw0 hg hn hok
  have HPLZ := HPL
  conv => arg 2; arg 1; whnf
  refine wp_loop (fun a' wr => ∃ (i : Nat) (ds : List Deferred) (u7 u8 u9 u10 u24 u25 u26 u27 u28 u29 u30 u31 u32 u33 u34 u35 u36 u37 u38 u39 u40 u41 u42 u43 u44 u45 u46 u47 u48 u49 u50 u51 u52 u53 u54 u55 u56 u57 u58 u59 : Value), (i ≤ n ∧ (∀ j, j < i → badF P j = none) ∧ Frm wz.heap.size [] wz wr ∧ Marks w0.heap.size ds wr) ∧ a' = ⟨(List.toArray (x0 :: x1 :: .pointer (some ⟨r2, 0, none⟩) :: .pointer (some ⟨r3, 0, none⟩) :: .pointer (some ⟨r4, 0, none⟩) :: .pointer (some ⟨p5, 0, none⟩) :: x6 :: u7 :: u8 :: u9 :: u10 :: x11 :: x12 :: x13 :: x14 :: x15 :: x16 :: x17 :: x18 :: x19 :: x20 :: .slice q.a1 n q.c1 :: .int .i64 n :: .int .i64 (i : Int) :: u24 :: u25 :: u26 :: u27 :: u28 :: u29 :: u30 :: u31 :: u32 :: u33 :: u34 :: u35 :: u36 :: u37 :: u38 :: u39 :: u40 :: u41 :: u42 :: u43 :: u44 :: u45 :: u46 :: u47 :: u48 :: u49 :: u50 :: u51 :: u52 :: u53 :: u54 :: u55 :: u56 :: u57 :: u58 :: u59 :: [])), ds⟩) (fun a' _ => n - (intOf (a'.tmps.getD 23 undef)).toNat) ?_ ?_
  · exact ⟨0, [], _, _, _, _, _, _, _, _, _, _, _, _, _, _, _, _, _, _, _, _, _, _, _, _, _, _, _, _, _, _, _, _, _, _, _, _, _, _, _, _, ⟨Nat.zero_le _, fun j hj => by omega, Frm.refl _ _ _, Marks.nil _ _⟩, rfl⟩
  rintro _ wr ⟨i, ds, u7, u8, u9, u10, u24, u25, u26, u27, u28, u29, u30, u31, u32, u33, u34, u35, u36, u37, u38, u39, u40, u41, u42, u43, u44, u45, u46, u47, u48, u49, u50, u51, u52, u53, u54, u55, u56, u57, u58, u59, ⟨hi, hall, hfr, hmk⟩, rfl⟩
  have hfw : Frm w0.heap.size [] w0 wr := HW0.out.call hfr HW0.out.size (by simp)
  by_cases hin : i < n
  rotate_left
  · have hin' : ¬ (i : Int) < (n : Int) := by omega
    obtain rfl : i = n := by omega
    have hso : soundO P = none := some_no (fun j hj => by rw [hall j (by have := HN.out; omega)]; rfl)
    have HSO := Lib.hid hso
    have HFR := Lib.hid hfr
    have HMK := Lib.hid hmk
    clear hmk hfr hso
    go_wp2_with fail
    exact HEX.out HSO.out _ _ _ _ _ _ _ _ _ _ _ _ _ _ _ _ _ _ _ _ _ _ _ _ _ _ _ _ _ _ _ _ _ _ _ _ _ _ _ _ _ ds wr HFR.out HMK.out
  have hin' : (i : Int) < (n : Int) := by omega
  obtain ⟨w4x, w5x⟩ := wrapUp hin HLEN.out
  have hms := meas_up hin
  have hplr := HPL.out.frm hfr (Nat.le_refl _)
  have had := hplr.acts.ad (by have := HN.out; omega)
  have had3 := hplr.aft.ad (by have := HN.out; omega)
  have had2 := hplr.bef.ad (by have := HN.out; omega)
  obtain ⟨a1, b1, o1, c1, a2, b2, o2, c2, a3, b3, o3, c3⟩ := q
  dsimp only at had had2 had3
  subst had
  subst had2
  subst had3
  have hlo : (loadVar 118 ⟨b1, o1 + i * 3, none⟩).run Tryd.prog wr = .ok (.agg (P.act i).toArray) wr := hplr.acts.load (P := Tryd.prog) Tryd.underlying118 rfl (by have := HN.out; omega) info118
  have haf : ∀ V, PlAt V pb ⟨some ⟨b1, o1, none⟩, b1, o1, c1, some ⟨b2, o2, none⟩, b2, o2, c2, some ⟨b3, o3, none⟩, b3, o3, c3⟩ P → V.cell? ⟨pb, 3, none⟩ = some (.slice (some ⟨b3, o3, none⟩) n c3) ∧ V.cell? ⟨b3, o3 + i, none⟩ = some (.int .u32 (P.after i : Int)) ∧ V.cell? ⟨pb, 2, none⟩ = some (.slice (some ⟨b2, o2, none⟩) n c2) ∧ V.cell? ⟨b2, o2 + i, none⟩ = some (.int .u32 (P.before i : Int)) := fun V hV => by
    have e : n = P.n := HN.out
    refine ⟨?_, hV.aft.cell1 (by omega), ?_, hV.bef.cell1 (by omega)⟩
    · rw [e]; exact hV.box.cell 3
    · rw [e]; exact hV.box.cell 2
  have h5r := hfr.blk HP5.out HZ5.out (by simp)
  have HALL := Lib.hid hall
  have HFR := Lib.hid hfr
  have HMK := Lib.hid hmk
  have HIN := Lib.hid hin
  have HMS := Lib.hid hms
  have HPLR := Lib.hid hplr
  have HLO := Lib.hid hlo
  have HAF := Lib.hid haf
  have H5R := Lib.hid h5r
  have HFW := Lib.hid hfw
  clear hfw h5r haf hlo hplr hms hin hmk hfr hall
  go_wp2_with (first | (with_reducible refine atLoad 118 rfl ?_; refine wpList_loadE rfl rfl rfl HLO.out ?_) | (with_reducible refine atStore 118 rfl ?_; refine stop_ ?_))
  refine go_on ?_
  refine wpList_storeNewB (P := Tryd.prog) (b := wr.heap.size + 1) (cs := P.act i) rfl rfl (by simp) rfl rfl rfl info118 (by simp [PL.act, Value.oneCell']) ?_
  intro V1 hf1 k8
  have k7 : Blk V1 wr.heap.size 3 [.int .i64 (i : Int)] := hf1.blk (Blk.new wr 3 [.int .i64 (i : Int)]) (by simp) (by simp)
  have hfV : Frm wr.heap.size [] wr V1 := ((Frm.refl _ _ wr).alloc (Nat.le_refl _) _).call hf1 (by simp) (by simp)
  obtain ⟨p, hp⟩ : ∃ p, p = wr.heap.size := ⟨_, rfl⟩
  simp only [← hp] at k7 k8 ⊢
  have hpl1 := HPLR.out.frm hfV (Nat.le_refl _)
  have h51 := hfV.blk H5R.out H5R.out.lt (by simp)
  have hfw1 : Frm w0.heap.size [] w0 V1 := HFW.out.call hfV HFW.out.size (by simp)
  have hfz1 : Frm wz.heap.size [] wz V1 := HFR.out.call hfV HFR.out.size (by simp)
  have hmk1 := HMK.out.frm hfV (Nat.le_refl _) (fun x hx => by cases hx)
  have hzp : wz.heap.size ≤ p := by rw [hp]; exact HFR.out.size
  clear hf1 hfV hp HPLR H5R HFW HFR HMK HLO
  have K7 := Lib.hid k7
  have K8 := Lib.hid k8
  have HPL1 := Lib.hid hpl1
  have H51 := Lib.hid h51
  have HFW := Lib.hid hfw1
  have HFR := Lib.hid hfz1
  have HMK := Lib.hid hmk1
  have HZP := Lib.hid hzp
  clear hzp hmk1 hfz1 hfw1 h51 hpl1 k8 k7
  go_upto_region 7 with fail
  have hev := fun V (hV : Frm V1.heap.size [] V1 V) => everything_any pb ⟨some ⟨b1, o1, none⟩, b1, o1, c1, some ⟨b2, o2, none⟩, b2, o2, c2, some ⟨b3, o3, none⟩, b3, o3, c3⟩ P HOK.out V (HPL1.out.frm hV (Nat.le_refl _))
  have hea : 2 ^ P.n - 1 = allP P := rfl
  rw [hea] at hev
  obtain ⟨al, hal⟩ : ∃ a, a = allP P := ⟨_, rfl⟩
  obtain ⟨af, haf⟩ : ∃ a, a = P.after i := ⟨_, rfl⟩
  have hmb : andN (andN al af) (0 ||| 1 <<< i) = maybeS P i := by rw [hal, haf]; rfl
  obtain ⟨mb, hmbn⟩ : ∃ a, a = maybeS P i := ⟨_, rfl⟩
  have htop : 2 ^ P.n ≤ 4294967296 := Nat.pow_le_pow_right (n := 2) (i := P.n) (j := 32) (by omega) (by have := HOK.out.n; omega)
  have hal32 : al < 4294967296 := by rw [hal]; exact Nat.lt_of_lt_of_le (allP_lt P) htop
  have haf32 : af < 4294967296 := by rw [haf]; exact Nat.lt_of_lt_of_le (HOK.out.after i (by have := HN.out; have := HIN.out; omega)) htop
  have ha32 : andN al af < 4294967296 := andN_lt (n := 32) (Nat.le_refl _) hal32
  have hb32 : (0 ||| 1 <<< i) < 4294967296 := by rw [Nat.zero_or]; exact shl32_lt (by have := HIN.out; have := HN12.out; omega)
  have hb1 := andNot_u32 hal32 haf32
  have hb2 := andNot_u32 ha32 hb32
  rw [hmb, ← hmbn] at hb2
  rw [← hal] at hev
  have hws := fun V => withS_any 0 i (by omega) (by have := HIN.out; have := HN12.out; omega) V
  obtain ⟨x1, hx1⟩ : ∃ x, x = andN al af := ⟨_, rfl⟩
  obtain ⟨x2, hx2⟩ : ∃ x, x = (0 ||| 1 <<< i : Nat) := ⟨_, rfl⟩
  rw [← hx1] at hb1 hb2
  rw [← hx2] at hb2 hws
  have hfx : ∀ V, Frm V1.heap.size [] V1 V → V.cell? ⟨p5, 0, none⟩ = some (.pointer (some ⟨pb, 0, none⟩)) ∧ V.cell? ⟨pb, 3, none⟩ = some (.slice (some ⟨b3, o3, none⟩) n c3) ∧ V.cell? ⟨p, 0, none⟩ = some (.int .i64 (i : Int)) ∧ V.cell? ⟨b3, o3 + i, none⟩ = some (.int .u32 (af : Int)) := fun V hV => by
    obtain ⟨h1, h2, _, _⟩ := HAF.out V (HPL1.out.frm hV (Nat.le_refl _))
    exact ⟨(hV.blk H51.out H51.out.lt (by simp)).cell 0, h1, (hV.blk K7.out K7.out.lt (by simp)).cell 0, by rw [haf]; exact h2⟩
  clear hea hmb htop hal32 haf32 ha32 hb32
  have HEV := Lib.hid hev
  have HAL := Lib.hid hal
  have HAFE := Lib.hid haf
  have HMB := Lib.hid hmbn
  have HX1 := Lib.hid hx1
  have HX2 := Lib.hid hx2
  have HFX := Lib.hid hfx
  have HWS := Lib.hid hws
  clear hws hfx hx2 hx1 hmbn haf hal hev
  apply viaR1 (fun p9 V => Frm V1.heap.size [] V1 V ∧ Blk V p9 119 [.int .u32 (mb : Int)] ∧ V1.heap.size ≤ p9)
  · intro hvia
    have HVIA := Lib.hid hvia
    clear hvia
    refine wp_region_leftL (fun V => Frm V1.heap.size [] V1 V) 1000 (by kernel_rfl) ?_
    have hS : Frm V1.heap.size [] V1 V1.drew := (Frm.refl _ _ V1).drew
    have HS := Lib.hid hS
    clear hS
    first | ((first | refine LeftL.tkF (v := ?_) 0 rfl HS.out ?_ ?_ | refine LeftL.tkG (v := ?_) 0 rfl HS.out ?_ ?_); rotate_left; (· intro V hV; obtain ⟨q0, q1, q2, q3⟩ := HFX.out V hV; clear hV; go_simp; rfl)) | refine LeftL.tkN 0 rfl HS.out ?_
    (intro K' hK'; go_simp; refine hK' _ ?_; clear hK' K')
    first | ((first | refine LeftL.tkF (v := ?_) 2 rfl HS.out ?_ ?_ | refine LeftL.tkG (v := ?_) 2 rfl HS.out ?_ ?_); rotate_left; (· intro V hV; obtain ⟨q0, q1, q2, q3⟩ := HFX.out V hV; clear hV; go_simp; rfl)) | refine LeftL.tkN 2 rfl HS.out ?_
    (intro K' hK'; go_simp; refine hK' _ ?_; clear hK' K')
    first | ((first | refine LeftL.tkF (v := ?_) 3 rfl HS.out ?_ ?_ | refine LeftL.tkG (v := ?_) 3 rfl HS.out ?_ ?_); rotate_left; (· intro V hV; obtain ⟨q0, q1, q2, q3⟩ := HFX.out V hV; clear hV; go_simp; rfl)) | refine LeftL.tkN 3 rfl HS.out ?_
    (intro K' hK'; go_simp; refine hK' _ ?_; clear hK' K')
    first | ((first | refine LeftL.tkF (v := ?_) 4 rfl HS.out ?_ ?_ | refine LeftL.tkG (v := ?_) 4 rfl HS.out ?_ ?_); rotate_left; (· intro V hV; obtain ⟨q0, q1, q2, q3⟩ := HFX.out V hV; clear hV; go_simp; rfl)) | refine LeftL.tkN 4 rfl HS.out ?_
    (intro K' hK'; go_simp; refine hK' _ ?_; clear hK' K')
    first | ((first | refine LeftL.tkF (v := ?_) 5 rfl HS.out ?_ ?_ | refine LeftL.tkG (v := ?_) 5 rfl HS.out ?_ ?_); rotate_left; (· intro V hV; obtain ⟨q0, q1, q2, q3⟩ := HFX.out V hV; clear hV; go_simp; rfl)) | refine LeftL.tkN 5 rfl HS.out ?_
    (intro K' hK'; go_simp; refine hK' _ ?_; clear hK' K')
    first | ((first | refine LeftL.tkF (v := ?_) 6 rfl HS.out ?_ ?_ | refine LeftL.tkG (v := ?_) 6 rfl HS.out ?_ ?_); rotate_left; (· intro V hV; obtain ⟨q0, q1, q2, q3⟩ := HFX.out V hV; clear hV; go_simp; rfl)) | refine LeftL.tkN 6 rfl HS.out ?_
    (intro K' hK'; go_simp; refine hK' _ ?_; clear hK' K')
    first | ((first | refine LeftL.tkF (v := ?_) 7 rfl HS.out ?_ ?_ | refine LeftL.tkG (v := ?_) 7 rfl HS.out ?_ ?_); rotate_left; (· intro V hV; obtain ⟨q0, q1, q2, q3⟩ := HFX.out V hV; clear hV; go_simp; rfl)) | refine LeftL.tkN 7 rfl HS.out ?_
    (intro K' hK'; go_simp; refine hK' _ ?_; clear hK' K')
    first | ((first | refine LeftL.tkF (v := ?_) 8 rfl HS.out ?_ ?_ | refine LeftL.tkG (v := ?_) 8 rfl HS.out ?_ ?_); rotate_left; (· intro V hV; obtain ⟨q0, q1, q2, q3⟩ := HFX.out V hV; clear hV; go_simp; rfl)) | refine LeftL.tkN 8 rfl HS.out ?_
    (intro K' hK'; go_simp; refine hK' _ ?_; clear hK' K')
    first | ((first | refine LeftL.tkF (v := ?_) 10 rfl HS.out ?_ ?_ | refine LeftL.tkG (v := ?_) 10 rfl HS.out ?_ ?_); rotate_left; (· intro V hV; obtain ⟨q0, q1, q2, q3⟩ := HFX.out V hV; clear hV; go_simp; rfl)) | refine LeftL.tkN 10 rfl HS.out ?_
    (intro K' hK'; go_simp; refine hK' _ ?_; clear hK' K')
    have HS0 := HS
    refine LeftL.two 1 13 rfl rfl (by kernel_rfl) ?_ ?_
    · go_wp2_with fail
      refine (HEV.out _ HS.out).mono ?_; rintro e w' ⟨rfl, rfl⟩
      go_wp2_with fail
      first | refine ⟨fun _ => HS.out, ?_⟩ | refine ⟨HS.out, ?_⟩
      first | ((first | refine LeftL.tkF (v := ?_) 9 rfl HS.out ?_ ?_ | refine LeftL.tkG (v := ?_) 9 rfl HS.out ?_ ?_); rotate_left; (· intro V hV; obtain ⟨q0, q1, q2, q3⟩ := HFX.out V hV; clear hV; go_simp; rfl)) | refine LeftL.tkN 9 rfl HS.out ?_
      (intro K' hK'; go_simp; refine hK' _ ?_; clear hK' K')
      refine LeftL.two 11 13 rfl rfl (by kernel_rfl) ?_ ?_
      · go_wp2_with fail
        have hws := HWS.out
        refine (hws _).mono ?_; rintro e w' ⟨rfl, rfl⟩
        go_wp2_with fail
        first | refine ⟨fun _ => HS.out, ?_⟩ | refine ⟨HS.out, ?_⟩
        first | ((first | refine LeftL.tkF (v := ?_) 12 rfl HS.out ?_ ?_ | refine LeftL.tkG (v := ?_) 12 rfl HS.out ?_ ?_); rotate_left; (· intro V hV; obtain ⟨q0, q1, q2, q3⟩ := HFX.out V hV; clear hV; go_simp; rfl)) | refine LeftL.tkN 12 rfl HS.out ?_
        (intro K' hK'; go_simp; refine hK' _ ?_; clear hK' K')
        refine LeftL.one 13 rfl (by kernel_rfl) ?_
        go_wp2_with fail
        refine ⟨fun _ => HS0.out.alloc (Nat.le_refl _) _, ?_⟩
        replace HS := Lib.hid (HS0.out.alloc (Nat.le_refl _) (.cells #[.int .u32 0] 119))
        refine LeftL.one 14 rfl (by kernel_rfl) ?_
        go_wp2_with fail
        refine ⟨fun _ => (by first | exact HS.out | exact HS0.out.alloc (Nat.le_refl _) _), ?_⟩
        refine namedLL ?_; intro w9 hw9
        have hF : Frm V1.heap.size [] V1 w9 := by rw [hw9]; repeat (first | with_reducible exact Frm.refl _ _ _ | with_reducible refine Frm.drewN ?_ | with_reducible refine Frm.drew ?_ | ((with_reducible refine Frm.setCell' ?_ ?_); · first | (left; simp; done) | (right; simp; done) | (right; simp; omega)) | ((with_reducible refine Frm.alloc' ?_ ?_); · first | exact Nat.le_refl _ | (simp; done) | (simp; omega)))
        obtain ⟨c0, hc0⟩ : ∃ c, c = V1.heap.size := ⟨_, rfl⟩
        have hB : Blk w9 c0 119 [.int .u32 (mb : Int)] := by rw [hw9, hc0]; exact Blk.new' _ 119 [.int .u32 (mb : Int)] rfl
        have hL : Frm V1.heap.size [] V1 w9 ∧ Blk w9 c0 119 [.int .u32 (mb : Int)] ∧ V1.heap.size ≤ c0 := ⟨hF, hB, by omega⟩
        rw [← hc0]
        clear hw9 hF hB hc0
        refine LeftL.done (by kernel_rfl) ?_
        go_simp
        exact HVIA.out c0 w9 hL
      · go_wp2_with fail
        refine ⟨fun _ => HS0.out.alloc (Nat.le_refl _) _, ?_⟩
        replace HS := Lib.hid (HS0.out.alloc (Nat.le_refl _) (.cells #[.int .u32 0] 119))
        refine LeftL.one 11 rfl (by kernel_rfl) ?_
        go_wp2_with fail
        have hws := HWS.out
        refine (hws _).mono ?_; rintro e w' ⟨rfl, rfl⟩
        go_wp2_with fail
        first | refine ⟨fun _ => HS.out, ?_⟩ | refine ⟨HS.out, ?_⟩
        first | ((first | refine LeftL.tkF (v := ?_) 12 rfl HS.out ?_ ?_ | refine LeftL.tkG (v := ?_) 12 rfl HS.out ?_ ?_); rotate_left; (· intro V hV; obtain ⟨q0, q1, q2, q3⟩ := HFX.out V hV; clear hV; go_simp; rfl)) | refine LeftL.tkN 12 rfl HS.out ?_
        (intro K' hK'; go_simp; refine hK' _ ?_; clear hK' K')
        refine LeftL.one 14 rfl (by kernel_rfl) ?_
        go_wp2_with fail
        refine ⟨fun _ => (by first | exact HS.out | exact HS0.out.alloc (Nat.le_refl _) _), ?_⟩
        refine namedLL ?_; intro w9 hw9
        have hF : Frm V1.heap.size [] V1 w9 := by rw [hw9]; repeat (first | with_reducible exact Frm.refl _ _ _ | with_reducible refine Frm.drewN ?_ | with_reducible refine Frm.drew ?_ | ((with_reducible refine Frm.setCell' ?_ ?_); · first | (left; simp; done) | (right; simp; done) | (right; simp; omega)) | ((with_reducible refine Frm.alloc' ?_ ?_); · first | exact Nat.le_refl _ | (simp; done) | (simp; omega)))
        obtain ⟨c0, hc0⟩ : ∃ c, c = V1.heap.size := ⟨_, rfl⟩
        have hB : Blk w9 c0 119 [.int .u32 (mb : Int)] := by rw [hw9, hc0]; exact Blk.new' _ 119 [.int .u32 (mb : Int)] rfl
        have hL : Frm V1.heap.size [] V1 w9 ∧ Blk w9 c0 119 [.int .u32 (mb : Int)] ∧ V1.heap.size ≤ c0 := ⟨hF, hB, by omega⟩
        rw [← hc0]
        clear hw9 hF hB hc0
        refine LeftL.done (by kernel_rfl) ?_
        go_simp
        exact HVIA.out c0 w9 hL
    · go_wp2_with fail
      refine ⟨fun _ => HS0.out.alloc (Nat.le_refl _) _, ?_⟩
      replace HS := Lib.hid (HS0.out.alloc (Nat.le_refl _) (.cells #[.int .u32 0] 119))
      refine LeftL.one 1 rfl (by kernel_rfl) ?_
      go_wp2_with fail
      refine (HEV.out _ HS.out).mono ?_; rintro e w' ⟨rfl, rfl⟩
      go_wp2_with fail
      first | refine ⟨fun _ => HS.out, ?_⟩ | refine ⟨HS.out, ?_⟩
      first | ((first | refine LeftL.tkF (v := ?_) 9 rfl HS.out ?_ ?_ | refine LeftL.tkG (v := ?_) 9 rfl HS.out ?_ ?_); rotate_left; (· intro V hV; obtain ⟨q0, q1, q2, q3⟩ := HFX.out V hV; clear hV; go_simp; rfl)) | refine LeftL.tkN 9 rfl HS.out ?_
      (intro K' hK'; go_simp; refine hK' _ ?_; clear hK' K')
      refine LeftL.one 11 rfl (by kernel_rfl) ?_
      go_wp2_with fail
      have hws := HWS.out
      refine (hws _).mono ?_; rintro e w' ⟨rfl, rfl⟩
      go_wp2_with fail
      first | refine ⟨fun _ => HS.out, ?_⟩ | refine ⟨HS.out, ?_⟩
      first | ((first | refine LeftL.tkF (v := ?_) 12 rfl HS.out ?_ ?_ | refine LeftL.tkG (v := ?_) 12 rfl HS.out ?_ ?_); rotate_left; (· intro V hV; obtain ⟨q0, q1, q2, q3⟩ := HFX.out V hV; clear hV; go_simp; rfl)) | refine LeftL.tkN 12 rfl HS.out ?_
      (intro K' hK'; go_simp; refine hK' _ ?_; clear hK' K')
      refine LeftL.one 14 rfl (by kernel_rfl) ?_
      go_wp2_with fail
      refine ⟨fun _ => (by first | exact HS.out | exact HS0.out.alloc (Nat.le_refl _) _), ?_⟩
      refine namedLL ?_; intro w9 hw9
      have hF : Frm V1.heap.size [] V1 w9 := by rw [hw9]; repeat (first | with_reducible exact Frm.refl _ _ _ | with_reducible refine Frm.drewN ?_ | with_reducible refine Frm.drew ?_ | ((with_reducible refine Frm.setCell' ?_ ?_); · first | (left; simp; done) | (right; simp; done) | (right; simp; omega)) | ((with_reducible refine Frm.alloc' ?_ ?_); · first | exact Nat.le_refl _ | (simp; done) | (simp; omega)))
      obtain ⟨c0, hc0⟩ : ∃ c, c = V1.heap.size := ⟨_, rfl⟩
      have hB : Blk w9 c0 119 [.int .u32 (mb : Int)] := by rw [hw9, hc0]; exact Blk.new' _ 119 [.int .u32 (mb : Int)] rfl
      have hL : Frm V1.heap.size [] V1 w9 ∧ Blk w9 c0 119 [.int .u32 (mb : Int)] ∧ V1.heap.size ≤ c0 := ⟨hF, hB, by omega⟩
      rw [← hc0]
      clear hw9 hF hB hc0
      refine LeftL.done (by kernel_rfl) ?_
      go_simp
      exact HVIA.out c0 w9 hL
  intro p9 V2 ⟨hf2, k9, hp9⟩
  have hpl2 := HPL1.out.frm hf2 (Nat.le_refl _)
  have h52 := hf2.blk H51.out H51.out.lt (by simp)
  have hfw2 : Frm w0.heap.size [] w0 V2 := HFW.out.call hf2 HFW.out.size (by simp)
  have hfz2 : Frm wz.heap.size [] wz V2 := HFR.out.call hf2 HFR.out.size (by simp)
  have hmk2 := HMK.out.frm hf2 (Nat.le_refl _) (fun x hx => by cases hx)
  have k72 := hf2.blk K7.out K7.out.lt (by simp)
  have k82 := hf2.blk K8.out K8.out.lt (by simp)
  have hp9' : wz.heap.size ≤ p9 := Nat.le_trans HFR.out.size hp9
  obtain ⟨nd, hnd⟩ : ∃ x, x = P.need i := ⟨_, rfl⟩
  have hnd16 : nd < 2 ^ 16 := by rw [hnd]; exact HOK.out.need i (by have := HN.out; have := HIN.out; omega)
  have c8 : V2.cell? ⟨p + 1, 0, none⟩ = some (.int .u32 (nd : Int)) := by rw [hnd]; exact k82.cell 0
  clear hf2 hp9 HPL1 H51 HFW HFR HMK K7 K8 k82 hb1 hb2 HEV HAL HX1 HX2 HFX HWS
  have HPL2 := Lib.hid hpl2
  have H52 := Lib.hid h52
  have HFW := Lib.hid hfw2
  have HFR := Lib.hid hfz2
  have HMK := Lib.hid hmk2
  have K7 := Lib.hid k72
  have K9 := Lib.hid k9
  have HP9 := Lib.hid hp9'
  have HND := Lib.hid hnd
  have HND16 := Lib.hid hnd16
  clear hnd16 hnd hp9' k9 k72 hmk2 hfz2 hfw2 h52 hpl2
  go_wp2_with fail
  refine (allF_any nd V2).mono ?_; rintro e w1 ⟨rfl, hsb, hf1⟩
  obtain ⟨sb, hsbn⟩ : ∃ k, k = V2.heap.size := ⟨_, rfl⟩
  have hpl1 := HPL2.out.frm hf1 (Nat.le_refl _)
  have h51 := hf1.blk H52.out H52.out.lt (by simp)
  have hfw1 : Frm w0.heap.size [] w0 w1 := HFW.out.call hf1 HFW.out.size (by simp)
  have hfz1 : Frm wz.heap.size [] wz w1 := HFR.out.call hf1 HFR.out.size (by simp)
  have hmk1 := HMK.out.frm hf1 (Nat.le_refl _) (fun x hx => by cases hx)
  have k71 := hf1.blk K7.out K7.out.lt (by simp)
  have k91 := hf1.blk K9.out K9.out.lt (by simp)
  have hzs : wz.heap.size ≤ sb := by rw [hsbn]; exact HFR.out.size
  have hps : p < sb := by rw [hsbn]; exact K7.out.lt
  have h9s : p9 < sb := by rw [hsbn]; exact K9.out.lt
  have hbs : pb < sb := by have := HZB.out; omega
  rw [← hsbn] at hsb ⊢
  have hsl := hsb.lt
  have hg1 := HG.out.frm hfw1 (Nat.le_refl _)
  clear hf1 hsbn HPL2 H52 HFW HFR HMK K7 K9 c8
  have HPL := Lib.hid hpl1
  have H5 := Lib.hid h51
  have HFW := Lib.hid hfw1
  have HFR := Lib.hid hfz1
  have HMK := Lib.hid hmk1
  have K7 := Lib.hid k71
  have K9 := Lib.hid k91
  have HZS := Lib.hid hzs
  have HPS := Lib.hid hps
  have H9S := Lib.hid h9s
  have HBS := Lib.hid hbs
  have HSB := Lib.hid hsb
  have HSL := Lib.hid hsl
  have HG1 := Lib.hid hg1
  clear hg1 hsl hsb hbs h9s hps hzs k91 k71 hmk1 hfz1 hfw1 h51 hpl1
  go_wp2_with fail
  obtain ⟨N, hN⟩ : ∃ N, N = w1.heap.size := ⟨_, rfl⟩
  have hsN : sb < N := by rw [hN]; exact HSL.out
  have hwN : w0.heap.size ≤ N := by rw [hN]; exact HFW.out.size
  obtain ⟨A, hA⟩ : ∃ A, A = bitsOf 16 nd := ⟨_, rfl⟩
  have hAl : ∀ j, j < A.length → A.getD j 0 < 16 := fun j hj => by
    have h1 : A.getD j 0 ∈ A := by simp [List.getD_eq_getElem?_getD, hj]
    rw [hA] at h1
    exact (bitsOf_mem.1 (by rw [← hA] at h1 ⊢; exact h1)).1
  obtain ⟨cont, hcont⟩ : ∃ c : Nat → Bool, c = fun t => sureN P i (A.getD t 0) := ⟨_, rfl⟩
  have hr2 := HFR.out.blk HR2.out HZ2.out (by simp)
  have hr3 := HFR.out.blk HR3.out HZ3.out (by simp)
  have hr4 := HFR.out.blk HR4.out HZ4.out (by simp)
  have h2s : r2 < sb := by have := HZ2.out; have := HZS.out; omega
  have h3s : r3 < sb := by have := HZ3.out; have := HZS.out; omega
  have h4s : r4 < sb := by have := HZ4.out; have := HZS.out; omega
  have hw2z : w0.heap.size ≤ sb := Nat.le_trans HW0.out.size HZS.out
  have hr2z := HZ2.out
  have hr3z := HZ3.out
  have hr4z := HZ4.out
  clear HR2 HR3 HR4
  have HNE := Lib.hid hN
  have HSN := Lib.hid hsN
  have HWN := Lib.hid hwN
  have HAA := Lib.hid hA
  have HAL2 := Lib.hid hAl
  have HCONT := Lib.hid hcont
  have HR2 := Lib.hid hr2
  have HR3 := Lib.hid hr3
  have HR4 := Lib.hid hr4
  have H2S := Lib.hid h2s
  have H3S := Lib.hid h3s
  have H4S := Lib.hid h4s
  have HW2Z := Lib.hid hw2z
  clear hw2z h4s h3s h2s hr4 hr3 hr2 hcont hAl hA hwN hsN hN
  refine (wpIn_wide (n := 1)).1 ?_
  refine wp_rangeFunc_ret (m := 0) (gf := 102) (lb := #[.pointer (some ⟨sb, 0, none⟩)]) rfl E3.out.out
    (fun t => #[.int .i64 ((A.getD t 0 : Nat) : Int)]) (fun t => rfl) A.length cont [sb] [r2, r3, r4] (SndJ N sb w1) (SndX N sb r2 r3 r4 i A w1)
    (sndR A.length cont) ?hS0 ?hST ?hJ ?hJx ?hR ?hiter ?h0 ?hround ?hdone ?hstop
  case hS0 => intro x hx; rw [← HNE.out]; have := HSN.out; have := H2S.out; have := H3S.out; have := H4S.out; simp at hx; omega
  case hST => intro x hx; rw [← HNE.out]; have := HSN.out; simp at hx; omega
  case hJ =>
    intro t A1 B' hA1 j0 hf
    rw [← HNE.out] at hA1 hf
    have hsN := HSN.out
    exact Frm.call j0 hf (by omega) (fun x hx hm => by simp at hm ⊢; omega)
  case hJx =>
    rintro t A1 o hA1 ⟨j0, j2, j3, j4⟩
    rw [← HNE.out]
    have hsN := HSN.out
    have := H2S.out; have := H3S.out; have := H4S.out
    exact ⟨j0.putObj (.inr (by omega)) o, (World.putObj_heap_other (by omega)).trans j2, (World.putObj_heap_other (by omega)).trans j3, (World.putObj_heap_other (by omega)).trans j4⟩
  case hR => intro o A1 ob hR; exact hR
  case hiter =>
    intro J' Jx' W2 hfW2 hN2 hJ' hY' h0'
    rw [← HNE.out] at hfW2 hN2 hJ' hY'
    rw [← HNE.out]
    have hsN := HSN.out
    have hwN := HWN.out
    have := H2S.out; have := H3S.out; have := H4S.out; have := HW2Z.out
    have := HL2.out; have := HL3.out; have := HL4.out
    have hw2f : Frm w0.heap.size [] w0 W2 := HFW.out.call hfW2 hwN (by simp)
    refine callsIn_wide.2 ((iterF_any sb nd 16 N 0 (N + 1) [r2, r3, r4] w0 W2 HG.out hw2f (hfW2.blk HSB.out hsN (by simp)) (by omega) (by omega) hsN (by simp; omega) (fun x hx => by simp at hx; omega) (by omega) HND16.out cont
      (fun t A1 => J' t A1 ∧ N + 2 ≤ A1.heap.size) Jx' ?_ ?_ ⟨h0', hN2⟩).mono ?_)
    · rintro t A1 B' _ ⟨hj, hz⟩ hf
      exact ⟨hJ' t A1 B' hz hj hf, Nat.le_trans hz hf.size⟩
    · rintro t A0 A1 ht _ ⟨hj, hz⟩ hf
      rw [← HAA.out] at ht ⊢
      refine (hY' t A0 A1 ht hz hj hf).mono ?_
      rintro e A' ⟨hk, (⟨h1, h2, h3⟩ | h)⟩
      · exact ⟨hk, .inl ⟨h1, h2, h3, Nat.le_trans (Nat.le_trans hz hf.size) hk.frm.size⟩⟩
      · exact ⟨hk, .inr h⟩
    · rintro e W3 ⟨hv, hf3, (⟨h1, h2⟩ | ⟨t, h1, h2, h3, h4⟩)⟩
      · rw [← HAA.out] at h1 h2
        exact ⟨hv, .inl ⟨h2, h1.1⟩⟩
      · rw [← HAA.out] at h1
        exact ⟨hv, .inr ⟨t, ⟨h1, h2, h3⟩, h4⟩⟩
  case h0 =>
    intro W2 hf2 hz
    rw [← HNE.out] at hf2
    exact hf2.narrow (by simp)
  case hround =>
    intro t A0 W2 ht hz0 _ hf0 j0
    rw [← HNE.out] at hz0
    rw [← HNE.out]
    have hkn := HAL2.out t ht
    obtain ⟨g, hk⟩ : ∃ g, g = A.getD t 0 := ⟨_, rfl⟩
    have hct : cont t = sureN P i g := by rw [HCONT.out, hk]
    rw [← hk] at hkn
    dsimp only
    simp only [← hk]
    have hsN := HSN.out
    have HKK := Lib.hid hk
    have HTT := Lib.hid ht
    have HCT := Lib.hid hct
    clear hct ht hk
    refine regionIn_of (noOut noOutF) rfl ?_
    go_wp2_with fail
    refine ⟨⟨Frm.refl _ _ _, fun k _ _ => rfl⟩, ?_⟩
    intro o
    have hz2 : N + 2 ≤ W2.heap.size := Nat.le_trans hz0 hf0.size
    obtain ⟨W4, hW4⟩ : ∃ W4, W4 = W2.putObj (N + 1) o := ⟨_, rfl⟩
    have hz4 : N + 2 ≤ W4.heap.size := by rw [hW4]; simpa using hz2
    have e0 : Frm N [sb] w1 W4 := by rw [hW4]; exact Frm.putObj j0 (.inr (by omega)) o
    rw [← hW4]
    have hz0A : A0.heap.size ≤ W4.heap.size := by rw [hW4]; simpa using hf0.size
    clear hW4 j0 hf0 hz2
    have e0f : Frm w0.heap.size [] w0 W4 := HFW.out.call e0 (by have := HWN.out; omega) (fun x hx hm => by have := HW2Z.out; simp at hm; omega)
    have h4l := H9S.out; have h4p := HPS.out; have h4z := HZS.out; have h45 := HZ5.out
    have e5 : Blk W4 p5 108 [.pointer (some ⟨pb, 0, none⟩)] := e0.blk H5.out (by omega) (by simp; omega)
    have e7 : Blk W4 p 3 [.int .i64 (i : Int)] := e0.blk K7.out (by omega) (by simp; omega)
    have e9 : Blk W4 p9 119 [.int .u32 (mb : Int)] := e0.blk K9.out (by omega) (by simp; omega)
    have hplr : PlAt W4 pb ⟨some ⟨b1, o1, none⟩, b1, o1, c1, some ⟨b2, o2, none⟩, b2, o2, c2, some ⟨b3, o3, none⟩, b3, o3, c3⟩ P := HPLZ.out.frm (HFR.out.call e0 (by omega) (fun x hx hm => by simp at hm; omega)) (Nat.le_refl _)
    obtain ⟨bf, hbf⟩ : ∃ x, x = P.before i := ⟨_, rfl⟩
    have hfx : ∀ V, Frm W4.heap.size [] W4 V → V.cell? ⟨p5, 0, none⟩ = some (.pointer (some ⟨pb, 0, none⟩)) ∧ V.cell? ⟨pb, 2, none⟩ = some (.slice (some ⟨b2, o2, none⟩) n c2) ∧ V.cell? ⟨p, 0, none⟩ = some (.int .i64 (i : Int)) ∧ V.cell? ⟨b2, o2 + i, none⟩ = some (.int .u32 (bf : Int)) ∧ V.cell? ⟨p9, 0, none⟩ = some (.int .u32 (mb : Int)) := fun V hV => by
      obtain ⟨_, _, h1, h2⟩ := HAF.out V (hplr.frm hV (Nat.le_refl _))
      exact ⟨(hV.blk e5 e5.lt (by simp)).cell 0, h1, (hV.blk e7 e7.lt (by simp)).cell 0, by rw [hbf]; exact h2, (hV.blk e9 e9.lt (by simp)).cell 0⟩
    have hsu : ∀ V, Frm W4.heap.size [] W4 V → Calls Tryd.prog 72 #[.pointer (some ⟨pb, 0, none⟩), .int .i64 (g : Int), .int .u32 (bf : Int), .int .u32 (mb : Int)] V fun e w' => e = .returned (.bool (cont t)) ∧ Frm V.heap.size [] V w' := fun V hV => by
      have := surely_any pb _ P HOK.out g (P.before i) (maybeS P i) hkn (HOK.out.before i (by have := HN.out; have := HIN.out; omega)) (maybeS_lt HOK.out i) V (hplr.frm hV (Nat.le_refl _)) (HG.out.frm (e0f.call hV e0f.size (by simp)) (Nat.le_refl _))
      rw [hbf, HMB.out, HCT.out]
      exact this
    have hx2 : Blk W4 r2 3 [.int .i64 0] := e0.blk HR2.out (by have := H2S.out; omega) (by have := H2S.out; simp; omega)
    have hx3 : Blk W4 r3 3 [.int .i64 0] := e0.blk HR3.out (by have := H3S.out; omega) (by have := H3S.out; simp; omega)
    have hx4 : Blk W4 r4 27 [.int .i64 0] := e0.blk HR4.out (by have := H4S.out; omega) (by have := H4S.out; simp; omega)
    clear e5 e9 hplr h4l h4p h4z h45 hsN
    have E0 := Lib.hid e0
    have E0F := Lib.hid e0f
    have E7 := Lib.hid e7
    have HFX := Lib.hid hfx
    have HKN := Lib.hid hkn
    have HZA := Lib.hid hz0A
    have HZ4B := Lib.hid hz4
    have HZ0 := Lib.hid hz0
    have HSU := Lib.hid hsu
    have HX2 := Lib.hid hx2
    have HX3 := Lib.hid hx3
    have HX4 := Lib.hid hx4
    have HBF := Lib.hid hbf
    clear hbf hx4 hx3 hx2 hsu hz0 hz4 hz0A hkn hfx e7 e0f e0
    refine wpIn_block ?_
    refine wpIn_seq ?_
    refine regionIn_leftL (noOut (noOutB noOutR)) (by kernel_rfl) (fun V => Frm W4.heap.size [] W4 V) 1000 (by kernel_rfl) ?_
    have hS : Frm W4.heap.size [] W4 W4.drew := (Frm.refl _ _ W4).drew
    have HS := Lib.hid hS
    clear hS
    first | ((first | refine LeftL.tkF (v := ?_) 0 rfl HS.out ?_ ?_ | refine LeftL.tkG (v := ?_) 0 rfl HS.out ?_ ?_); rotate_left; (· intro V hV; obtain ⟨q0, q1, q2, q3, q4⟩ := HFX.out V hV; clear hV; go_simp; rfl)) | refine LeftL.tkN 0 rfl HS.out ?_
    (intro K' hK'; go_simp; refine hK' _ ?_; clear hK' K')
    first | ((first | refine LeftL.tkF (v := ?_) 1 rfl HS.out ?_ ?_ | refine LeftL.tkG (v := ?_) 1 rfl HS.out ?_ ?_); rotate_left; (· intro V hV; obtain ⟨q0, q1, q2, q3, q4⟩ := HFX.out V hV; clear hV; go_simp; rfl)) | refine LeftL.tkN 1 rfl HS.out ?_
    (intro K' hK'; go_simp; refine hK' _ ?_; clear hK' K')
    first | ((first | refine LeftL.tkF (v := ?_) 2 rfl HS.out ?_ ?_ | refine LeftL.tkG (v := ?_) 2 rfl HS.out ?_ ?_); rotate_left; (· intro V hV; obtain ⟨q0, q1, q2, q3, q4⟩ := HFX.out V hV; clear hV; go_simp; rfl)) | refine LeftL.tkN 2 rfl HS.out ?_
    (intro K' hK'; go_simp; refine hK' _ ?_; clear hK' K')
    first | ((first | refine LeftL.tkF (v := ?_) 3 rfl HS.out ?_ ?_ | refine LeftL.tkG (v := ?_) 3 rfl HS.out ?_ ?_); rotate_left; (· intro V hV; obtain ⟨q0, q1, q2, q3, q4⟩ := HFX.out V hV; clear hV; go_simp; rfl)) | refine LeftL.tkN 3 rfl HS.out ?_
    (intro K' hK'; go_simp; refine hK' _ ?_; clear hK' K')
    first | ((first | refine LeftL.tkF (v := ?_) 4 rfl HS.out ?_ ?_ | refine LeftL.tkG (v := ?_) 4 rfl HS.out ?_ ?_); rotate_left; (· intro V hV; obtain ⟨q0, q1, q2, q3, q4⟩ := HFX.out V hV; clear hV; go_simp; rfl)) | refine LeftL.tkN 4 rfl HS.out ?_
    (intro K' hK'; go_simp; refine hK' _ ?_; clear hK' K')
    first | ((first | refine LeftL.tkF (v := ?_) 5 rfl HS.out ?_ ?_ | refine LeftL.tkG (v := ?_) 5 rfl HS.out ?_ ?_); rotate_left; (· intro V hV; obtain ⟨q0, q1, q2, q3, q4⟩ := HFX.out V hV; clear hV; go_simp; rfl)) | refine LeftL.tkN 5 rfl HS.out ?_
    (intro K' hK'; go_simp; refine hK' _ ?_; clear hK' K')
    first | ((first | refine LeftL.tkF (v := ?_) 6 rfl HS.out ?_ ?_ | refine LeftL.tkG (v := ?_) 6 rfl HS.out ?_ ?_); rotate_left; (· intro V hV; obtain ⟨q0, q1, q2, q3, q4⟩ := HFX.out V hV; clear hV; go_simp; rfl)) | refine LeftL.tkN 6 rfl HS.out ?_
    (intro K' hK'; go_simp; refine hK' _ ?_; clear hK' K')
    first | ((first | refine LeftL.tkF (v := ?_) 7 rfl HS.out ?_ ?_ | refine LeftL.tkG (v := ?_) 7 rfl HS.out ?_ ?_); rotate_left; (· intro V hV; obtain ⟨q0, q1, q2, q3, q4⟩ := HFX.out V hV; clear hV; go_simp; rfl)) | refine LeftL.tkN 7 rfl HS.out ?_
    (intro K' hK'; go_simp; refine hK' _ ?_; clear hK' K')
    first | ((first | refine LeftL.tkF (v := ?_) 8 rfl HS.out ?_ ?_ | refine LeftL.tkG (v := ?_) 8 rfl HS.out ?_ ?_); rotate_left; (· intro V hV; obtain ⟨q0, q1, q2, q3, q4⟩ := HFX.out V hV; clear hV; go_simp; rfl)) | refine LeftL.tkN 8 rfl HS.out ?_
    (intro K' hK'; go_simp; refine hK' _ ?_; clear hK' K')
    first | ((first | refine LeftL.tkF (v := ?_) 9 rfl HS.out ?_ ?_ | refine LeftL.tkG (v := ?_) 9 rfl HS.out ?_ ?_); rotate_left; (· intro V hV; obtain ⟨q0, q1, q2, q3, q4⟩ := HFX.out V hV; clear hV; go_simp; rfl)) | refine LeftL.tkN 9 rfl HS.out ?_
    (intro K' hK'; go_simp; refine hK' _ ?_; clear hK' K')
    refine LeftL.one 10 rfl (by kernel_rfl) ?_
    go_wp2_with fail
    refine (HSU.out _ HS.out).mono ?_; rintro e w5 ⟨rfl, hf1⟩
    have hS1 := HS.out.call hf1 HS.out.size (by simp)
    clear hf1 HS
    obtain ⟨ct, hcn⟩ : ∃ b, b = cont t := ⟨_, rfl⟩
    rw [← hcn]
    have HS := Lib.hid hS1
    have HCN := Lib.hid hcn
    clear hcn hS1
    go_wp2_with fail
    first | refine ⟨fun _ => HS.out, ?_⟩ | refine ⟨HS.out, ?_⟩
    first | ((first | refine LeftL.tkF (v := ?_) 11 rfl HS.out ?_ ?_ | refine LeftL.tkG (v := ?_) 11 rfl HS.out ?_ ?_); rotate_left; (· intro V hV; obtain ⟨q0, q1, q2, q3, q4⟩ := HFX.out V hV; clear hV; go_simp; rfl)) | refine LeftL.tkN 11 rfl HS.out ?_
    (intro K' hK'; go_simp; refine hK' _ ?_; clear hK' K')
    refine LeftL.done (by kernel_rfl) ?_
    have g0 : Frm N [sb] w1 w5 := E0.out.call HS.out (by have := HZ4B.out; omega) (by simp)
    have hsN := HSN.out
    have hkp : KeepY (N + 2) [r2, r3, r4] A0.heap.size W4 w5 := keepY_of HS.out HZ4B.out (fun x hx _ => by cases hx) (fun x hx => by cases hx)
    have hlt5 : W4.heap.size ≤ w5.heap.size := HS.out.size
    dsimp only [Exit.then]
    cases ct
    rotate_left
    · refine wpIn_cond_false rfl ?_
      refine wpIn_skip ?_
      show KeepY (w1.heap.size + 2) _ _ _ _ ∧ _ ∧ SndJ N sb w1 (t + 1) _
      rw [← HNE.out]
      exact ⟨hkp, HCN.out.symm, g0⟩
    · refine wpIn_cond_true rfl ?_
      refine wpIn_seq ?_
      have x2 := HS.out.blk HX2.out HX2.out.lt (by simp)
      have x3 := HS.out.blk HX3.out HX3.out.lt (by simp)
      have x4 := HS.out.blk HX4.out HX4.out.lt (by simp)
      have c7 : w5.cell? ⟨p, 0, none⟩ = some (.int .i64 (i : Int)) := (HS.out.blk E7.out E7.out.lt (by simp)).cell 0
      have m2 : w5.cell? ⟨r2, 0, none⟩ = some (.int .i64 0) := x2.cell 0
      have m3 : w5.cell? ⟨r3, 0, none⟩ = some (.int .i64 0) := x3.cell 0
      have m4 : w5.cell? ⟨r4, 0, none⟩ = some (.int .i64 0) := x4.cell 0
      have f2 := x2.free 0
      have f3 := x3.free 0
      have f4 := x4.free 0
      have n23 := H23.out
      have n24 := H24.out
      have n34 := H34.out
      have n32 := Ne.symm n23
      have n42 := Ne.symm n24
      have n43 := Ne.symm n34
      clear HS E0 E0F E7 HFX HSU HX2 HX3 HX4
      have HKP := Lib.hid hkp
      have G0 := Lib.hid g0
      have HLT5 := Lib.hid hlt5
      have X2 := Lib.hid x2
      have X3 := Lib.hid x3
      have X4 := Lib.hid x4
      clear x4 x3 x2 hlt5 g0 hkp
      refine regionIn_of (noOut (noOutB noOutR)) rfl ?_
      go_wp2_with fail
      refine wpIn_ret ?_
      show KeepY (w1.heap.size + 2) _ _ _ _ ∧ _ ∧ SndX N sb r2 r3 r4 i A w1 t _
      rw [← HNE.out]
      have hF6 : Frm w5.heap.size [r2, r3, r4] w5 (((w5.setCell ⟨r2, 0, none⟩ (.int .i64 (i : Int))).setCell ⟨r3, 0, none⟩ (.int .i64 (g : Int))).setCell ⟨r4, 0, none⟩ (.int .i64 9)) := (((Frm.refl _ _ w5).setCell (p := ⟨r2, 0, none⟩) (.inl (by simp)) _).setCell (p := ⟨r3, 0, none⟩) (.inl (by simp)) _).setCell (p := ⟨r4, 0, none⟩) (.inl (by simp)) _
      have y2 : Blk (((w5.setCell ⟨r2, 0, none⟩ (.int .i64 (i : Int))).setCell ⟨r3, 0, none⟩ (.int .i64 (g : Int))).setCell ⟨r4, 0, none⟩ (.int .i64 9)) r2 3 [.int .i64 (i : Int)] := ((X2.out.set 0 _).other _ (by simpa using n32) _).other _ (by simpa using n42) _
      have y3 : Blk (((w5.setCell ⟨r2, 0, none⟩ (.int .i64 (i : Int))).setCell ⟨r3, 0, none⟩ (.int .i64 (g : Int))).setCell ⟨r4, 0, none⟩ (.int .i64 9)) r3 3 [.int .i64 (g : Int)] := ((X3.out.other _ (by simpa using n23) _).set 0 _).other _ (by simpa using n43) _
      have y4 : Blk (((w5.setCell ⟨r2, 0, none⟩ (.int .i64 (i : Int))).setCell ⟨r3, 0, none⟩ (.int .i64 (g : Int))).setCell ⟨r4, 0, none⟩ (.int .i64 9)) r4 27 [.int .i64 9] := ((X4.out.other _ (by simpa using n24) _).other _ (by simpa using n34) _).set 0 _
      have := H2S.out; have := H3S.out; have := H4S.out; have hza := HZA.out; have hz0 := HZ0.out; have hz4 := HZ4B.out; have hl5 := HLT5.out
      exact ⟨HKP.out.trans (keepY_of hF6 (by omega) (fun x hx _ => hx) (fun x hx => by simp at hx; omega)), HCN.out.symm, ⟨(G0.out.narrow (S' := [sb, r2, r3, r4]) (by simp)).call hF6 (by omega) (fun x hx hm => by simp at hm ⊢; omega), y2, by rw [← HKK.out]; exact y3, y4⟩⟩
  case hdone =>
    intro W2 hall2 j0 hD
    have hm2 : Marks w0.heap.size (mark1 w1.heap.size :: ds) W2 := HMK.out.next HFW.out.size (by rw [← HNE.out]; exact j0) (fun x hx r hr => by
      simp at hx
      subst hx
      exact blk_ne HSB.out hr) hD
    have hf2 : Frm wz.heap.size [] wz W2 := HFR.out.call j0 (by have := HZS.out; have := HSN.out; omega) (fun x hx hm => by have := HZS.out; simp at hm; omega)
    have hbi : badF P i = none := by
      unfold badF
      rw [← HND.out, ← HAA.out]
      refine find_no A fun k hk => ?_
      have h1 : sureN P i (A.getD k 0) = true := by have := hall2 k hk; rw [HCONT.out] at this; exact this
      show (!sureN P i (A.getD k 0)) = false
      rw [h1]; rfl
    have hfin : i + 1 ≤ n ∧ (∀ j, j < i + 1 → badF P j = none) ∧ Frm wz.heap.size [] wz W2 ∧ Marks w0.heap.size (mark1 w1.heap.size :: ds) W2 := ⟨HIN.out, fun j hj => by
      rcases Nat.lt_or_ge j i with h | h
      · exact HALL.out j h
      · obtain rfl : j = i := by omega
        exact hbi, hf2, hm2⟩
    clear hm2 hf2 j0 hD hbi hall2
    have HFIN := Lib.hid hfin
    clear hfin
    dsimp only [Exit.inBlock, Exit.then]
    go_wp2_with fail
    (try simp only [w4x, w5x])
    exact ⟨⟨i + 1, _, _, _, _, _, _, _, _, _, _, _, _, _, _, _, _, _, _, _, _, _, _, _, _, _, _, _, _, _, _, _, _, _, _, _, _, _, _, _, _, _, HFIN.out, rfl⟩, HMS.out⟩
  case hstop =>
    rintro t W2 ⟨ht, hbe, hc⟩ ⟨j0, j2, j3, j4⟩ hD
    have hm2 : Marks w0.heap.size (mark1 w1.heap.size :: ds) W2 := HMK.out.next HFW.out.size (by rw [← HNE.out]; exact j0) (fun x hx r hr => by
      simp at hx
      rcases hx with rfl | rfl | rfl | rfl
      · exact blk_ne HSB.out hr
      · exact blk_ne HR2.out hr
      · exact blk_ne HR3.out hr
      · exact blk_ne HR4.out hr) hD
    have hf2 : Frm w0.heap.size [] w0 W2 := HFW.out.call j0 (by have := HWN.out; omega) (fun x hx hm => by have := HW2Z.out; have := HL2.out; have := HL3.out; have := HL4.out; simp at hm; omega)
    have hbi : badF P i = some (A.getD t 0) := by
      unfold badF
      rw [← HND.out, ← HAA.out]
      refine find_at A t ht (fun k hk => ?_) ?_
      · have h1 : sureN P i (A.getD k 0) = true := by have := hbe k hk; rw [HCONT.out] at this; exact this
        show (!sureN P i (A.getD k 0)) = false
        rw [h1]; rfl
      · have h1 : sureN P i (A.getD t 0) = false := by rw [HCONT.out] at hc; exact hc
        show (!sureN P i (A.getD t 0)) = true
        rw [h1]; rfl
    have hin2 : i < P.n := by have := HN.out; have := HIN.out; omega
    have hso : soundO P = some (i, A.getD t 0) := some_at (g := fun i => (badF P i).map fun f => (i, f)) hin2 (fun j hj => by
      show (badF P j).map _ = none
      rw [HALL.out j hj]; rfl) (by
      show (badF P i).map _ = _
      rw [hbi]; rfl)
    exact HNO.out i _ hso _ _ _ _ _ _ _ _ _ _ _ _ _ _ _ _ _ _ _ _ _ _ _ _ _ _ _ _ _ _ _ _ _ _ _ _ _ _ _ _ _ _ W2 hf2 j2 j3 j4 hm2
end Go.Proofs.YtfmigicmfolbjaaDoor
