/-
  With the tanks empty that Drain names the stability is at least what was asked for, and that with any fewer ones empty it is not.
-/
import Derived.Test.YtfmigicmfolbjaaDoorE1
namespace Go.Proofs.YtfmigicmfolbjaaDoor
set_option linter.all false
set_option linter.unusedSimpArgs false
set_option linter.unusedVariables false
open Go.ChangeShapes Go.WideShapes Go.ChangeAt Go.RowKit

theorem inF_at0 {A : List Nat} {i : Nat} : inF (at0 A) A.length (i : Int) = decide (i ∈ A) := by
  by_cases h : i ∈ A
  · obtain ⟨k, hk, rfl⟩ := List.getElem_of_mem h
    rw [inF_yes hk (by simp [at0, List.getD_eq_getElem?_getD, hk])]
    simp
  · rw [inF_no fun k hk he => h ?_]
    · simp [h]
    · have : (A.getD k 0) = i := by unfold at0 at he; omega
      rw [← this]
      simp [List.getD_eq_getElem?_getD, hk]
theorem in_bits {n e i : Nat} (hi : i < n) : inF (at0 (bitsOf n e)) (bitsOf n e).length (i : Int) = e.testBit i := by
  rw [inF_at0]
  cases h : e.testBit i
  · simp [bitsOf_mem, h]
  · simp [bitsOf_mem, h, hi]
theorem bits_succ (k e : Nat) : (bitsOf (k + 1) e).length = (bitsOf k e).length + (if e.testBit k = true then 1 else 0) := by
  unfold bitsOf
  rw [List.range_succ, List.filter_append, List.length_append]
  cases h : e.testBit k <;> simp [h]
theorem but_bits (L : Nat → Ta) (e : Nat) : ∀ n, (butL L e n).length + (bitsOf n e).length = n
  | 0 => rfl
  | n + 1 => by
    have ih := but_bits L e n
    rw [butL_succ, bits_succ, List.length_append]
    cases h : e.testBit n
    · simp; omega
    · simp; omega
theorem bits_mod (n o : Nat) : bitsOf n (o % 2 ^ n) = bitsOf n o := by
  unfold bitsOf
  refine List.filter_congr fun i hi => ?_
  rw [Nat.testBit_mod_two_pow]
  have : i < n := by simpa using hi
  simp [this]
theorem but_mod (L : Nat → Ta) (n o : Nat) : butL L (o % 2 ^ n) n = butL L o n := by
  unfold butL
  congr 1
  refine List.filter_congr fun i hi => ?_
  rw [Nat.testBit_mod_two_pow]
  have : i < n := by simpa using hi
  simp [this]
def rowsT (l : List Ta) : List Value := l.flatMap Ta.cells
theorem rowsT_snoc (l : List Ta) (t : Ta) : rowsT (l ++ [t]) = rowsT l ++ t.cells := by simp [rowsT]
theorem rowsT_range : ∀ l : List Ta, rowsT l = (List.range l.length).flatMap fun i => (l.getD i ta0).cells := by
  intro l
  unfold rowsT
  have : l = (List.range l.length).map fun i => l.getD i ta0 := by
    apply List.ext_getElem
    · simp
    · intro i h1 h2
      simp [List.getD_eq_getElem?_getD, h1]
  conv => lhs; rw [this]
  rw [List.flatMap_map]
theorem Sl.tanks {w : World} {v : Value} {l : List Ta} {own : Option Nat} (h : Sl w 49 4 v l.length (rowsT l) own) : ∃ ad b off cap, v = .slice ad l.length cap ∧ Rw w 4 ad b off l.length fun i => (l.getD i ta0).cells := by
  rw [rowsT_range] at h
  exact h.rw fun i => rfl
theorem tasL_self (l : List Ta) : tasL l.length (fun i => l.getD i ta0) = l := by
  unfold tasL
  apply List.ext_getElem
  · simp
  · intro i h1 h2
    simp [List.getD_eq_getElem?_getD, h2]
theorem but_mem {L : Nat → Ta} {e n : Nat} {x : Ta} (h : x ∈ butL L e n) : ∃ i, i < n ∧ x = L i := by
  unfold butL at h
  obtain ⟨i, hi, rfl⟩ := List.mem_map.1 h
  exact ⟨i, by simpa using (List.mem_filter.1 hi).1, rfl⟩
theorem but_ship {h : Hu} {L : Nat → Ta} {n e : Nat} (hh : huB h = true) (ht : tasB n L = true) (hn : n ≤ 6) : shipE h (butL L e n).length (fun i => (butL L e n).getD i ta0) = 0 := by
  have hl := butL_len L e n
  have h1 : tasB (butL L e n).length (fun i => (butL L e n).getD i ta0) = true := by
    unfold tasB at ht ⊢
    rw [List.all_eq_true] at ht ⊢
    intro i hi
    have hi : i < (butL L e n).length := by simpa using hi
    have hm : (butL L e n).getD i ta0 ∈ butL L e n := by simp [List.getD_eq_getElem?_getD, hi]
    obtain ⟨j, hj, hx⟩ := but_mem hm
    show taB ((butL L e n).getD i ta0) = true
    rw [hx]
    exact ht j (by simpa using hj)
  unfold shipE
  rw [hh, h1, if_pos (by rfl), if_neg (by omega)]
theorem stab_but {h : Hu} {L : Nat → Ta} {n e : Nat} (hh : huB h = true) (ht : tasB n L = true) (hn : n ≤ 6) {x : Ending} (k : StabilityIs h (butL L e n).length (fun i => (butL L e n).getD i ta0) x) : x = .returned (.tuple #[.int .i64 (stabZ h (butL L e n)), .int .i64 0]) := by
  rcases k with ⟨k1, _⟩ | ⟨_, k2⟩
  · exact absurd (but_ship hh ht hn) k1
  · rw [tasL_self] at k2; exact k2
theorem bit_i64 {o i : Nat} (ho : o < 256) : bits BinOp.and IntKind.i64 ((o : Int) / 2 ^ i) 1 = if o.testBit i = true then 1 else 0 := by
  have h1 : (o : Int) / 2 ^ i = ((o >>> i : Nat) : Int) := by
    rw [Nat.shiftRight_eq_div_pow]
    simp
  rw [h1]
  have hlt : o >>> i < 256 := Nat.lt_of_le_of_lt (by rw [Nat.shiftRight_eq_div_pow]; exact Nat.div_le_self _ _) ho
  have h2 : o.testBit i = decide ((o >>> i) % 2 = 1) := by rw [Nat.testBit_eq_decide_div_mod_eq, Nat.shiftRight_eq_div_pow]
  rw [h2]
  have key : ∀ x : Nat, x < 256 → bits BinOp.and IntKind.i64 (x : Int) 1 = if decide (x % 2 = 1) = true then 1 else 0 := by decide +kernel
  exact key _ hlt

/-- What Drain names: the bits of e. -/
structure DrOut (h : Hu) (n : Nat) (L : Nat → Ta) (m : Int) (w' : World) (k : Int) (e : Nat) (ad : Option Addr) (cap : Nat) : Prop where
  row : ∃ b off, RwI w' ad b off (bitsOf n e).length (at0 (bitsOf n e))
  why : (k = 7 ∧ e = 0 ∧ ∀ x, x < 2 ^ n → goodB h n L m x = false) ∨ (k = 0 ∧ goodB h n L m e = true ∧ ∀ x, x < 2 ^ n → goodB h n L m x = true → (bitsOf n e).length ≤ (bitsOf n x).length)
theorem drain_out {h : Hu} {n : Nat} {L : Nat → Ta} {m : Int} {w w' : World} {e : Ending} (hs : shipE h n L = 0) (hd : DrainIsR h n L m w w' e) :
    e = .returned (.tuple #[.slice none 0 0, .int .i64 4]) ∨ ∃ k x ad cap, e = .returned (.tuple #[.slice ad (bitsOf n x).length cap, .int .i64 k]) ∧ DrOut h n L m w' k x ad cap := by
  rcases hd with ⟨h1, _⟩ | ⟨_, _, rfl⟩ | ⟨_, _, h3, rfl⟩ | ⟨_, _, A, h3, v, own, rfl, h4, _⟩
  · exact absurd hs h1
  · exact .inl rfl
  · right
    have hi := drain_is n (goodB h n L m) (2 ^ n)
    rw [h3] at hi
    have e0 : bitsOf n 0 = [] := bitsOf_zero n
    refine ⟨7, 0, none, 0, by rw [e0]; rfl, ⟨0, 0, ?_⟩, .inl ⟨rfl, rfl, hi⟩⟩
    rw [e0]
    exact ⟨fun h => absurd h (by simp), Nat.zero_le _, fun i hi => absurd hi (by simp)⟩
  · right
    have hi := drain_is n (goodB h n L m) (2 ^ n)
    rw [h3] at hi
    obtain ⟨⟨x, hx, hg, rfl⟩, hall⟩ := hi
    obtain ⟨ad, b, off, cap, rfl, hr⟩ := ints_at0 h4
    exact ⟨0, x, ad, cap, rfl, ⟨b, off, hr⟩, .inr ⟨rfl, hg, hall⟩⟩
set_option maxRecDepth 100000 in
set_option maxHeartbeats 16000000 in
theorem drains_walk (h : Hu) (ad : Option Addr) (b off n cap : Nat) (L : Nat → Ta) (m : Int) (o : Nat) (ho : o < 256) (w : World) (hr : Rw w 4 ad b off n fun i => (L i).cells) (hg : Glob w) :
    Calls Tryd.prog 6 #[.agg h.cells.toArray, .slice ad n cap, .int .i64 m, .int .u8 (o : Int)] w fun e w' => e = .returned (.bool true) ∧ Frm w.heap.size [] w w' := by
  have hf0 := Tryd.func6
  obtain ⟨i0, hi0⟩ : ∃ i0, Tryd.prog.info? 49 = some i0 := ⟨_, rfl⟩
  have hzz : i0.zero = some (.agg #[.int .i64 0, .int .i64 0, .int .i64 0, .int .i64 0]) ∧ i0.size = 4 ∧ i0.bytes = 32 := by cases hi0; exact ⟨rfl, rfl, rfl⟩
  obtain ⟨hz0, hz1, hz2⟩ := hzz
  have HG := Lib.hid hg
  have HR := Lib.hid hr
  have HO := Lib.hid ho
  have HI0 := Lib.hid hi0
  have HZ0 := Lib.hid hz0
  have HZ1 := Lib.hid hz1
  have HZ2 := Lib.hid hz2
  clear hz2 hz1 hz0 hi0 ho hr hg
  go_enter Tryd.func6, Tryd.ntmps6
  go_upto_region 1 with fail
  refine namedC ?_; intro W hW
  obtain ⟨c, hc⟩ : ∃ c, c = w.heap.size := ⟨_, rfl⟩
  have k0 : Blk W c 41 h.cells := by rw [hW, hc]; exact Blk.new w 41 h.cells
  have hf : Frm w.heap.size [] w W := by rw [hW]; repeat (first | with_reducible exact Frm.refl _ _ _ | with_reducible refine Frm.drewN ?_ | with_reducible refine Frm.drew ?_ | ((with_reducible refine Frm.setCell' ?_ ?_); · first | (left; simp; done) | (right; simp; done) | (right; simp; omega)) | ((with_reducible refine Frm.alloc' ?_ ?_); · first | exact Nat.le_refl _ | (simp; done) | (simp; omega)))
  clear hW hf0
  rw [← hc]
  have K0 := Lib.hid k0
  have HF := Lib.hid hf
  have HC := Lib.hid hc
  clear hc hf k0
  by_cases hn : 6 < n
  · have hn' : (6 : Int) < (n : Int) := by omega
    go_wp2_with (go_at_call 18; refine (awake_any _ (HG.out.frm HF.out (Nat.le_refl _))).mono ?_; rintro e9 w9 ⟨rfl, hf9⟩; replace HF := Lib.hid (HF.out.call hf9 HF.out.size (by simp)); clear hf9)
    go_ret
    exact ⟨rfl, HF.out⟩
  have hn' : ¬ (6 : Int) < (n : Int) := by omega
  have hnd : decide ((6 : Int) < (n : Int)) = false := by simp; omega
  have hnd2 : decide (6 < n) = false := by simp; omega
  have hlo := load_hu K0.out
  have HLO := Lib.hid hlo
  clear hlo
  go_wp2_with (with_reducible refine atLoad 41 rfl ?_; refine wpList_loadGE rfl rfl rfl HLO.out ?_)
  refine (refShip_any h ad b off n cap L W (HR.out.frm HF.out (Nat.le_refl _))).mono ?_; rintro e w1 ⟨rfl, hf1⟩
  have k0 := hf1.blk K0.out K0.out.lt (by simp)
  have hf := HF.out.call hf1 HF.out.size (by simp)
  clear hf1 K0 HF HLO
  have K0 := Lib.hid k0
  have HF := Lib.hid hf
  clear hf k0
  cases hsh : (huB h && tasB n L)
  · have HSH := Lib.hid hsh
    clear hsh
    go_wp2_with (go_at_call 18; refine (awake_any _ (HG.out.frm HF.out (Nat.le_refl _))).mono ?_; rintro e9 w9 ⟨rfl, hf9⟩; replace HF := Lib.hid (HF.out.call hf9 HF.out.size (by simp)); clear hf9)
    go_ret
    exact ⟨rfl, HF.out⟩
  have hse : shipE h n L = 0 := by unfold shipE; rw [hsh, if_pos (by rfl), if_neg hn]
  have hhu : huB h = true := by rw [Bool.and_eq_true] at hsh; exact hsh.1
  have hta : tasB n L = true := by rw [Bool.and_eq_true] at hsh; exact hsh.2
  have hn6 : n ≤ 6 := by omega
  clear hn hn' hnd hnd2
  have HSH := Lib.hid hsh
  have HSE := Lib.hid hse
  have HHU := Lib.hid hhu
  have HTA := Lib.hid hta
  have HN6 := Lib.hid hn6
  clear hn6 hta hhu hse hsh
  go_wp2_with (with_reducible refine atLoad 41 rfl ?_; refine wpList_loadGE rfl rfl rfl (load_hu K0.out) ?_)
  refine (drain_any h ad b off n cap L m w1 (HR.out.frm HF.out (Nat.le_refl _)) (HG.out.frm HF.out (Nat.le_refl _))).mono ?_; rintro e w2 ⟨hdr, hf1⟩
  have k0 := hf1.blk K0.out K0.out.lt (by simp)
  have hf := HF.out.call hf1 HF.out.size (by simp)
  clear hf1 K0 HF
  rcases drain_out HSE.out hdr with rfl | ⟨k, x, da, dc, rfl, hdo⟩
  · clear hdr
    have K0 := Lib.hid k0
    have HF := Lib.hid hf
    clear hf k0
    go_wp2_with (go_at_call 18; refine (awake_any _ (HG.out.frm HF.out (Nat.le_refl _))).mono ?_; rintro e9 w9 ⟨rfl, hf9⟩; replace HF := Lib.hid (HF.out.call hf9 HF.out.size (by simp)); clear hf9)
    go_ret
    exact ⟨rfl, HF.out⟩
  clear hdr
  obtain ⟨lx, hlx⟩ : ∃ l, l = (bitsOf n x).length := ⟨_, rfl⟩
  have hk7 : k = 7 ∨ k = 0 := by
    rcases hdo.why with h | h
    · exact .inl h.1
    · exact .inr h.1
  obtain ⟨db, doff, hdr⟩ := hdo.row
  rw [← hlx] at hdr ⊢
  have K0 := Lib.hid k0
  have HF := Lib.hid hf
  have HDO := Lib.hid hdo
  have HDR := Lib.hid hdr
  have HLX := Lib.hid hlx
  clear hlx hdr hdo hf k0
  go_upto_region 4 with fail
  go_cut [41] from 36 to 41 (fun s41 w' => s41 = .bool false ∧ w' = w2)
  case first =>
    rcases hk7 with rfl | rfl
    · go_wp2_with fail
      go_meet
      case rel => exact ⟨rfl, rfl⟩
    · go_wp2_with fail
      go_meet
      case rel => exact ⟨rfl, rfl⟩
  obtain ⟨rfl, rfl⟩ := hcut
  obtain ⟨w2, hw2⟩ : ∃ v, v = wc := ⟨_, rfl⟩
  rw [← hw2] at HF K0 HDO HDR ⊢
  clear hw2
  have HK7 := Lib.hid hk7
  clear hk7
  have hlen : n ≤ maxLen := by have := HN6.out; unfold maxLen; omega
  go_wp2_with fail
  go_loopw [11, 12, 13, 14] (fun s11 s12 s13 s14 wr => ∃ i : Nat, s14 = .int .i64 i ∧ i ≤ n ∧ s13 = .int .i64 ((bitsOf i o).length : Int) ∧ (∃ o1 o2, Sl wr 49 4 s11 (butL L x i).length (rowsT (butL L x i)) o1 ∧ Sl wr 49 4 s12 (butL L o i).length (rowsT (butL L o i)) o2 ∧ (∀ b, o1 = some b → w2.heap.size ≤ b) ∧ (∀ b, o2 = some b → w2.heap.size ≤ b) ∧ ∀ b, o1 = some b → o2 ≠ some b) ∧ Frm w2.heap.size [] w2 wr) (fun _ _ _ s14 _ => n - (intOf s14).toNat)
  case atStart => exact ⟨0, rfl, Nat.zero_le _, rfl, ⟨none, none, Sl.nil _ _ _, Sl.nil _ _ _, fun b hb => (by cases hb), fun b hb => (by cases hb), fun b hb => (by cases hb)⟩, Frm.refl _ _ _⟩
  case round =>
    obtain ⟨i, rfl, hi, rfl, ⟨q1, q2, hs1, hs2, hw1, hw2, hne⟩, hfr⟩ := hrel
    obtain ⟨ad1, cp1, rfl⟩ := hs1.form
    obtain ⟨ad2, cp2, rfl⟩ := hs2.form
    by_cases hin : i < n
    · have hin' : (i : Int) < (n : Int) := by omega
      have had := HR.out.ad (by omega)
      subst had
      have hms := meas_up hin
      obtain ⟨w4, w5⟩ := wrapUp hin hlen
      have hrr : Frm w.heap.size [] w wr := HF.out.call hfr HF.out.size (by simp)
      have hlo : ∀ V, Frm wr.heap.size [] wr V → (loadVar 49 ⟨b, off + i * 4, none⟩).run Tryd.prog V = .ok (.agg (L i).cells.toArray) V := fun V hV => (HR.out.frm (hrr.call hV hrr.size (by simp)) (Nat.le_refl _)).load (P := Tryd.prog) Tryd.underlying49 rfl hin info49
      have hint := in_any da db doff lx dc (at0 (bitsOf n x)) (i : Int) wr (HDR.out.frm hfr (Nat.le_refl _))
      rw [HLX.out, in_bits hin, ← HLX.out] at hint
      have hb1 := butL_succ L x i
      have hb2 := butL_succ L o i
      have hb3 := bits_succ i o
      have hbl1 := butL_len L x i
      have hbl2 := butL_len L o i
      have hbt := bit_i64 (i := i) HO.out
      have z1 : (0 : Int) ≤ (i : Int) := by omega
      have z2 : ¬ (i : Int) < 0 := by omega
      have z3 : min i 64 = i := by have := HN6.out; omega
      have e1 : IntKind.i64.wrap (o : Int) = (o : Int) := IntWalk.i64_in _ (by have := HO.out; omega)
      obtain ⟨t, ht⟩ : ∃ t, t = L i := ⟨_, rfl⟩
      rw [← ht] at hlo hb1 hb2
      replace hlo : ∀ V, Frm wr.heap.size [] wr V → (loadVar 49 ⟨b, off + i * 4, none⟩).run Tryd.prog V = .ok (.agg #[.int .i64 t.long, .int .i64 t.wide, .int .i64 t.deep, .int .i64 t.floor]) V := hlo
      obtain ⟨l1, hl1⟩ : ∃ l, l = (butL L x i).length := ⟨_, rfl⟩
      obtain ⟨l2, hl2⟩ : ∃ l, l = (butL L o i).length := ⟨_, rfl⟩
      obtain ⟨l3, hl3⟩ : ∃ l, l = (bitsOf i o).length := ⟨_, rfl⟩
      rw [← hl1] at hs1 hbl1 ⊢
      rw [← hl2] at hs2 hbl2 ⊢
      rw [← hl3] at hb3 ⊢
      have e2 : IntKind.i64.wrap ((l3 : Int) + 1) = (l3 : Int) + 1 := IntWalk.i64_in _ (by have h1 := but_bits L o i; have := HN6.out; omega)
      have e3 : wrap64 ((l3 : Int) + 1) = (l3 : Int) + 1 := IntWalk.wrap64_in _ (by have h1 := but_bits L o i; have := HN6.out; omega)
      cases hx : x.testBit i
      · cases hoo : o.testBit i
        · rw [hx] at hint hb1
          rw [hoo] at hb2 hb3 hbt
          rw [if_neg (by simp)] at hb1
          rw [if_neg (by simp)] at hb2
          rw [if_neg (by simp), Nat.add_zero] at hb3
          rw [if_neg (by simp)] at hbt
          have HS1 := Lib.hid hs1
          have HS2 := Lib.hid hs2
          have HW1 := Lib.hid hw1
          have HW2 := Lib.hid hw2
          have HNE := Lib.hid hne
          have HFR := Lib.hid hfr
          have HIN := Lib.hid hin
          have HMS := Lib.hid hms
          have HRR := Lib.hid hrr
          have HLO := Lib.hid hlo
          have HINT := Lib.hid hint
          have HB1 := Lib.hid hb1
          have HB2 := Lib.hid hb2
          have HB3 := Lib.hid hb3
          have HBL1 := Lib.hid hbl1
          have HBL2 := Lib.hid hbl2
          have HT := Lib.hid ht
          have HL1 := Lib.hid hl1
          have HL2 := Lib.hid hl2
          have HL3 := Lib.hid hl3
          have HX := Lib.hid hx
          have HOO := Lib.hid hoo
          clear hoo hx hl3 hl2 hl1 ht hbl2 hbl1 hb3 hb2 hb1 hint hlo hrr hms hin hfr hne hw2 hw1 hs2 hs1
          go_wp2_with fail
          refine HINT.out.mono ?_; rintro e1 w3 ⟨rfl, hf3⟩
          have hfr := HFR.out.call hf3 HFR.out.size (by simp)
          have hs1 := HS1.out.frm hf3 (fun b hb => HS1.out.lt b hb) (by simp)
          have hs2 := HS2.out.frm hf3 (fun b hb => HS2.out.lt b hb) (by simp)
          have hlo := fun V (hV : Frm w3.heap.size [] w3 V) => HLO.out V (hf3.call hV hf3.size (by simp))
          clear hf3 HFR HS1 HS2 HLO HINT
          have HFR := Lib.hid hfr
          have HS1 := Lib.hid hs1
          have HS2 := Lib.hid hs2
          have HLO := Lib.hid hlo
          clear hlo hs2 hs1 hfr
          go_wp2_with (first | (with_reducible refine atLoad 49 rfl ?_; refine wpList_loadE rfl rfl rfl (HLO.out _ (Frm.refl _ _ _)) ?_) | (at_builtin; refine hold ?_; intro qG hG))
          refine hG.1 ?_; clear hG qG
          refine wpList_append_sl _ rfl (.tmp 53) (.tmp 58) 42 rfl 49 i0 _ 4 32 Tryd.underlying42 HI0.out HZ0.out HZ1.out HZ2.out rfl _ l1 (rowsT (butL L x i)) q1 rfl (HS1.out.alloc _) ⟨w3.heap.size, 0, none⟩ 1 1 t.cells rfl rfl (news_alloc _ t.cells _) (by simp [Ta.cells, Value.oneCell']) (by have := HBL1.out; have := HIN.out; have := HN6.out; unfold maxLen; omega) (by have := HBL1.out; have := HIN.out; have := HN6.out; omega) ?_
          intro vv1 w5 own1 hsA hfA hoA
          have hfr' : Frm w2.heap.size [] w2 w5 := (HFR.out.alloc HFR.out.size _).call hfA (by have := HFR.out.size; simp; omega) (fun y hy hm => by have := HW1.out y (by simpa using hm); omega)
          have hwn : ∀ b, own1 = some b → w2.heap.size ≤ b := fun b hb => by
            rcases hoA with h | ⟨q, h, hq⟩
            · exact HW1.out b (by rw [← h]; exact hb)
            · rw [hb] at h; cases h; have := HFR.out.size; simp at hq; omega
          have hso := (HS2.out.alloc (.cells t.cells.toArray 49)).beside hfA (Nat.le_refl _) (fun b hb hb2 => HNE.out b hb2 hb)
          have hne' : ∀ b, own1 = some b → q2 ≠ some b := fun b hb hb2 => by
            rcases hoA with h | ⟨q, h, hq⟩
            · exact HNE.out b (by rw [← h]; exact hb) hb2
            · rw [hb] at h; cases h; have := HS2.out.lt b hb2; simp at hq; omega
          skip
          have hsn : Sl w5 49 4 vv1 (l1 + 1) (rowsT (butL L x i ++ [t])) own1 := by rw [rowsT_snoc]; exact hsA
          obtain ⟨ada1, cpa1, rfl⟩ := hsn.form
          have hlo : ∀ V, Frm w5.heap.size [] w5 V → (loadVar 49 ⟨b, off + i * 4, none⟩).run Tryd.prog V = .ok (.agg #[.int .i64 t.long, .int .i64 t.wide, .int .i64 t.deep, .int .i64 t.floor]) V := fun V hV => by rw [HT.out]; exact (HR.out.frm (HF.out.call (hfr'.call hV hfr'.size (by simp)) HF.out.size (by simp)) (Nat.le_refl _)).load (P := Tryd.prog) Tryd.underlying49 rfl HIN.out info49
          clear hfA hoA hsA HFR HS1 HS2 HLO HW1 HNE
          have HFR := Lib.hid hfr'
          have HS1 := Lib.hid hsn
          have HS2 := Lib.hid hso
          have HW1 := Lib.hid hwn
          have HNE := Lib.hid hne'
          have HLO := Lib.hid hlo
          clear hfr' hsn hso hwn hne' hlo
          go_wp2_with (first | (with_reducible refine atLoad 49 rfl ?_; refine wpList_loadE rfl rfl rfl (HLO.out _ (Frm.refl _ _ _)) ?_) | (at_builtin; refine hold ?_; intro qG hG))
          refine hG.1 ?_; clear hG qG
          refine wpList_append_sl _ rfl (.tmp 66) (.tmp 71) 42 rfl 49 i0 _ 4 32 Tryd.underlying42 HI0.out HZ0.out HZ1.out HZ2.out rfl _ l2 (rowsT (butL L o i)) q2 rfl (HS2.out.alloc _) ⟨w5.heap.size, 0, none⟩ 1 1 t.cells rfl rfl (news_alloc _ t.cells _) (by simp [Ta.cells, Value.oneCell']) (by have := HBL2.out; have := HIN.out; have := HN6.out; unfold maxLen; omega) (by have := HBL2.out; have := HIN.out; have := HN6.out; omega) ?_
          intro vv2 w6 own2 hsA hfA hoA
          have hfr' : Frm w2.heap.size [] w2 w6 := (HFR.out.alloc HFR.out.size _).call hfA (by have := HFR.out.size; simp; omega) (fun y hy hm => by have := HW2.out y (by simpa using hm); omega)
          have hwn : ∀ b, own2 = some b → w2.heap.size ≤ b := fun b hb => by
            rcases hoA with h | ⟨q, h, hq⟩
            · exact HW2.out b (by rw [← h]; exact hb)
            · rw [hb] at h; cases h; have := HFR.out.size; simp at hq; omega
          have hso := (HS1.out.alloc (.cells t.cells.toArray 49)).beside hfA (Nat.le_refl _) (fun b hb hb2 => HNE.out b hb hb2)
          have hne' : ∀ b, own1 = some b → own2 ≠ some b := fun b hb hb2 => by
            rcases hoA with h | ⟨q, h, hq⟩
            · exact HNE.out b hb (by rw [← h]; exact hb2)
            · rw [hb2] at h; cases h; have := HS1.out.lt b hb; simp at hq; omega
          skip
          have hsn : Sl w6 49 4 vv2 (l2 + 1) (rowsT (butL L o i ++ [t])) own2 := by rw [rowsT_snoc]; exact hsA
          obtain ⟨ada2, cpa2, rfl⟩ := hsn.form
          have hlo : ∀ V, Frm w6.heap.size [] w6 V → (loadVar 49 ⟨b, off + i * 4, none⟩).run Tryd.prog V = .ok (.agg #[.int .i64 t.long, .int .i64 t.wide, .int .i64 t.deep, .int .i64 t.floor]) V := fun V hV => by rw [HT.out]; exact (HR.out.frm (HF.out.call (hfr'.call hV hfr'.size (by simp)) HF.out.size (by simp)) (Nat.le_refl _)).load (P := Tryd.prog) Tryd.underlying49 rfl HIN.out info49
          clear hfA hoA hsA HFR HS1 HS2 HLO HW2 HNE
          have HFR := Lib.hid hfr'
          have HS2 := Lib.hid hsn
          have HS1 := Lib.hid hso
          have HW2 := Lib.hid hwn
          have HNE := Lib.hid hne'
          have HLO := Lib.hid hlo
          clear hfr' hsn hso hwn hne' hlo
          have hfin : ∃ i' : Nat, Value.int .i64 ((i : Int) + 1) = .int .i64 i' ∧ i' ≤ n ∧ Value.int .i64 ((l3 : Int)) = .int .i64 ((bitsOf i' o).length : Int) ∧ (∃ o1 o2, Sl w6 49 4 (.slice ada1 (l1 + 1) cpa1) (butL L x i').length (rowsT (butL L x i')) o1 ∧ Sl w6 49 4 (.slice ada2 (l2 + 1) cpa2) (butL L o i').length (rowsT (butL L o i')) o2 ∧ (∀ b, o1 = some b → w2.heap.size ≤ b) ∧ (∀ b, o2 = some b → w2.heap.size ≤ b) ∧ ∀ b, o1 = some b → o2 ≠ some b) ∧ Frm w2.heap.size [] w2 w6 := by
            refine ⟨i + 1, by simp, HIN.out, by rw [HB3.out]; simp, ⟨own1, own2, ?_, ?_, HW1.out, HW2.out, HNE.out⟩, HFR.out⟩
            · rw [HB1.out, List.length_append, ← HL1.out]; exact HS1.out
            · rw [HB2.out, List.length_append, ← HL2.out]; exact HS2.out
          clear HFR HS1 HS2 HW1 HW2 HNE HLO
          have HFIN := Lib.hid hfin
          clear hfin
          go_wp2_with fail
          (try simp only [w4, w5, e2, e3])
          first | exact ⟨HFIN.out, HMS.out⟩ | (refine ⟨?_, HMS.out⟩; (repeat apply Exists.intro); refine ⟨?_, rfl⟩; exact HFIN.out)
        · rw [hx] at hint hb1
          rw [hoo] at hb2 hb3 hbt
          rw [if_neg (by simp)] at hb1
          rw [if_pos rfl, List.append_nil] at hb2
          rw [if_pos rfl] at hb3
          rw [if_pos rfl] at hbt
          have HS1 := Lib.hid hs1
          have HS2 := Lib.hid hs2
          have HW1 := Lib.hid hw1
          have HW2 := Lib.hid hw2
          have HNE := Lib.hid hne
          have HFR := Lib.hid hfr
          have HIN := Lib.hid hin
          have HMS := Lib.hid hms
          have HRR := Lib.hid hrr
          have HLO := Lib.hid hlo
          have HINT := Lib.hid hint
          have HB1 := Lib.hid hb1
          have HB2 := Lib.hid hb2
          have HB3 := Lib.hid hb3
          have HBL1 := Lib.hid hbl1
          have HBL2 := Lib.hid hbl2
          have HT := Lib.hid ht
          have HL1 := Lib.hid hl1
          have HL2 := Lib.hid hl2
          have HL3 := Lib.hid hl3
          have HX := Lib.hid hx
          have HOO := Lib.hid hoo
          clear hoo hx hl3 hl2 hl1 ht hbl2 hbl1 hb3 hb2 hb1 hint hlo hrr hms hin hfr hne hw2 hw1 hs2 hs1
          go_wp2_with fail
          refine HINT.out.mono ?_; rintro e1 w3 ⟨rfl, hf3⟩
          have hfr := HFR.out.call hf3 HFR.out.size (by simp)
          have hs1 := HS1.out.frm hf3 (fun b hb => HS1.out.lt b hb) (by simp)
          have hs2 := HS2.out.frm hf3 (fun b hb => HS2.out.lt b hb) (by simp)
          have hlo := fun V (hV : Frm w3.heap.size [] w3 V) => HLO.out V (hf3.call hV hf3.size (by simp))
          clear hf3 HFR HS1 HS2 HLO HINT
          have HFR := Lib.hid hfr
          have HS1 := Lib.hid hs1
          have HS2 := Lib.hid hs2
          have HLO := Lib.hid hlo
          clear hlo hs2 hs1 hfr
          go_wp2_with (first | (with_reducible refine atLoad 49 rfl ?_; refine wpList_loadE rfl rfl rfl (HLO.out _ (Frm.refl _ _ _)) ?_) | (at_builtin; refine hold ?_; intro qG hG))
          refine hG.1 ?_; clear hG qG
          refine wpList_append_sl _ rfl (.tmp 53) (.tmp 58) 42 rfl 49 i0 _ 4 32 Tryd.underlying42 HI0.out HZ0.out HZ1.out HZ2.out rfl _ l1 (rowsT (butL L x i)) q1 rfl (HS1.out.alloc _) ⟨w3.heap.size, 0, none⟩ 1 1 t.cells rfl rfl (news_alloc _ t.cells _) (by simp [Ta.cells, Value.oneCell']) (by have := HBL1.out; have := HIN.out; have := HN6.out; unfold maxLen; omega) (by have := HBL1.out; have := HIN.out; have := HN6.out; omega) ?_
          intro vv1 w5 own1 hsA hfA hoA
          have hfr' : Frm w2.heap.size [] w2 w5 := (HFR.out.alloc HFR.out.size _).call hfA (by have := HFR.out.size; simp; omega) (fun y hy hm => by have := HW1.out y (by simpa using hm); omega)
          have hwn : ∀ b, own1 = some b → w2.heap.size ≤ b := fun b hb => by
            rcases hoA with h | ⟨q, h, hq⟩
            · exact HW1.out b (by rw [← h]; exact hb)
            · rw [hb] at h; cases h; have := HFR.out.size; simp at hq; omega
          have hso := (HS2.out.alloc (.cells t.cells.toArray 49)).beside hfA (Nat.le_refl _) (fun b hb hb2 => HNE.out b hb2 hb)
          have hne' : ∀ b, own1 = some b → q2 ≠ some b := fun b hb hb2 => by
            rcases hoA with h | ⟨q, h, hq⟩
            · exact HNE.out b (by rw [← h]; exact hb) hb2
            · rw [hb] at h; cases h; have := HS2.out.lt b hb2; simp at hq; omega
          skip
          have hsn : Sl w5 49 4 vv1 (l1 + 1) (rowsT (butL L x i ++ [t])) own1 := by rw [rowsT_snoc]; exact hsA
          obtain ⟨ada1, cpa1, rfl⟩ := hsn.form
          have hlo : ∀ V, Frm w5.heap.size [] w5 V → (loadVar 49 ⟨b, off + i * 4, none⟩).run Tryd.prog V = .ok (.agg #[.int .i64 t.long, .int .i64 t.wide, .int .i64 t.deep, .int .i64 t.floor]) V := fun V hV => by rw [HT.out]; exact (HR.out.frm (HF.out.call (hfr'.call hV hfr'.size (by simp)) HF.out.size (by simp)) (Nat.le_refl _)).load (P := Tryd.prog) Tryd.underlying49 rfl HIN.out info49
          clear hfA hoA hsA HFR HS1 HS2 HLO HW1 HNE
          have HFR := Lib.hid hfr'
          have HS1 := Lib.hid hsn
          have HS2 := Lib.hid hso
          have HW1 := Lib.hid hwn
          have HNE := Lib.hid hne'
          have HLO := Lib.hid hlo
          clear hfr' hsn hso hwn hne' hlo
          have hfin : ∃ i' : Nat, Value.int .i64 ((i : Int) + 1) = .int .i64 i' ∧ i' ≤ n ∧ Value.int .i64 ((l3 : Int) + 1) = .int .i64 ((bitsOf i' o).length : Int) ∧ (∃ o1 o2, Sl w5 49 4 (.slice ada1 (l1 + 1) cpa1) (butL L x i').length (rowsT (butL L x i')) o1 ∧ Sl w5 49 4 (.slice ad2 l2 cp2) (butL L o i').length (rowsT (butL L o i')) o2 ∧ (∀ b, o1 = some b → w2.heap.size ≤ b) ∧ (∀ b, o2 = some b → w2.heap.size ≤ b) ∧ ∀ b, o1 = some b → o2 ≠ some b) ∧ Frm w2.heap.size [] w2 w5 := by
            refine ⟨i + 1, by simp, HIN.out, by rw [HB3.out]; simp, ⟨own1, q2, ?_, ?_, HW1.out, HW2.out, HNE.out⟩, HFR.out⟩
            · rw [HB1.out, List.length_append, ← HL1.out]; exact HS1.out
            · rw [HB2.out, ← HL2.out]; exact HS2.out
          clear HFR HS1 HS2 HW1 HW2 HNE HLO
          have HFIN := Lib.hid hfin
          clear hfin
          go_wp2_with fail
          (try simp only [w4, w5, e2, e3])
          first | exact ⟨HFIN.out, HMS.out⟩ | (refine ⟨?_, HMS.out⟩; (repeat apply Exists.intro); refine ⟨?_, rfl⟩; exact HFIN.out)
      · cases hoo : o.testBit i
        · rw [hx] at hint hb1
          rw [hoo] at hb2 hb3 hbt
          rw [if_pos rfl, List.append_nil] at hb1
          rw [if_neg (by simp)] at hb2
          rw [if_neg (by simp), Nat.add_zero] at hb3
          rw [if_neg (by simp)] at hbt
          have HS1 := Lib.hid hs1
          have HS2 := Lib.hid hs2
          have HW1 := Lib.hid hw1
          have HW2 := Lib.hid hw2
          have HNE := Lib.hid hne
          have HFR := Lib.hid hfr
          have HIN := Lib.hid hin
          have HMS := Lib.hid hms
          have HRR := Lib.hid hrr
          have HLO := Lib.hid hlo
          have HINT := Lib.hid hint
          have HB1 := Lib.hid hb1
          have HB2 := Lib.hid hb2
          have HB3 := Lib.hid hb3
          have HBL1 := Lib.hid hbl1
          have HBL2 := Lib.hid hbl2
          have HT := Lib.hid ht
          have HL1 := Lib.hid hl1
          have HL2 := Lib.hid hl2
          have HL3 := Lib.hid hl3
          have HX := Lib.hid hx
          have HOO := Lib.hid hoo
          clear hoo hx hl3 hl2 hl1 ht hbl2 hbl1 hb3 hb2 hb1 hint hlo hrr hms hin hfr hne hw2 hw1 hs2 hs1
          go_wp2_with fail
          refine HINT.out.mono ?_; rintro e1 w3 ⟨rfl, hf3⟩
          have hfr := HFR.out.call hf3 HFR.out.size (by simp)
          have hs1 := HS1.out.frm hf3 (fun b hb => HS1.out.lt b hb) (by simp)
          have hs2 := HS2.out.frm hf3 (fun b hb => HS2.out.lt b hb) (by simp)
          have hlo := fun V (hV : Frm w3.heap.size [] w3 V) => HLO.out V (hf3.call hV hf3.size (by simp))
          clear hf3 HFR HS1 HS2 HLO HINT
          have HFR := Lib.hid hfr
          have HS1 := Lib.hid hs1
          have HS2 := Lib.hid hs2
          have HLO := Lib.hid hlo
          clear hlo hs2 hs1 hfr
          go_wp2_with (first | (with_reducible refine atLoad 49 rfl ?_; refine wpList_loadE rfl rfl rfl (HLO.out _ (Frm.refl _ _ _)) ?_) | (at_builtin; refine hold ?_; intro qG hG))
          refine hG.1 ?_; clear hG qG
          refine wpList_append_sl _ rfl (.tmp 66) (.tmp 71) 42 rfl 49 i0 _ 4 32 Tryd.underlying42 HI0.out HZ0.out HZ1.out HZ2.out rfl _ l2 (rowsT (butL L o i)) q2 rfl (HS2.out.alloc _) ⟨w3.heap.size, 0, none⟩ 1 1 t.cells rfl rfl (news_alloc _ t.cells _) (by simp [Ta.cells, Value.oneCell']) (by have := HBL2.out; have := HIN.out; have := HN6.out; unfold maxLen; omega) (by have := HBL2.out; have := HIN.out; have := HN6.out; omega) ?_
          intro vv1 w5 own1 hsA hfA hoA
          have hfr' : Frm w2.heap.size [] w2 w5 := (HFR.out.alloc HFR.out.size _).call hfA (by have := HFR.out.size; simp; omega) (fun y hy hm => by have := HW2.out y (by simpa using hm); omega)
          have hwn : ∀ b, own1 = some b → w2.heap.size ≤ b := fun b hb => by
            rcases hoA with h | ⟨q, h, hq⟩
            · exact HW2.out b (by rw [← h]; exact hb)
            · rw [hb] at h; cases h; have := HFR.out.size; simp at hq; omega
          have hso := (HS1.out.alloc (.cells t.cells.toArray 49)).beside hfA (Nat.le_refl _) (fun b hb hb2 => HNE.out b hb hb2)
          have hne' : ∀ b, q1 = some b → own1 ≠ some b := fun b hb hb2 => by
            rcases hoA with h | ⟨q, h, hq⟩
            · exact HNE.out b hb (by rw [← h]; exact hb2)
            · rw [hb2] at h; cases h; have := HS1.out.lt b hb; simp at hq; omega
          skip
          have hsn : Sl w5 49 4 vv1 (l2 + 1) (rowsT (butL L o i ++ [t])) own1 := by rw [rowsT_snoc]; exact hsA
          obtain ⟨ada1, cpa1, rfl⟩ := hsn.form
          have hlo : ∀ V, Frm w5.heap.size [] w5 V → (loadVar 49 ⟨b, off + i * 4, none⟩).run Tryd.prog V = .ok (.agg #[.int .i64 t.long, .int .i64 t.wide, .int .i64 t.deep, .int .i64 t.floor]) V := fun V hV => by rw [HT.out]; exact (HR.out.frm (HF.out.call (hfr'.call hV hfr'.size (by simp)) HF.out.size (by simp)) (Nat.le_refl _)).load (P := Tryd.prog) Tryd.underlying49 rfl HIN.out info49
          clear hfA hoA hsA HFR HS1 HS2 HLO HW2 HNE
          have HFR := Lib.hid hfr'
          have HS2 := Lib.hid hsn
          have HS1 := Lib.hid hso
          have HW2 := Lib.hid hwn
          have HNE := Lib.hid hne'
          have HLO := Lib.hid hlo
          clear hfr' hsn hso hwn hne' hlo
          have hfin : ∃ i' : Nat, Value.int .i64 ((i : Int) + 1) = .int .i64 i' ∧ i' ≤ n ∧ Value.int .i64 ((l3 : Int)) = .int .i64 ((bitsOf i' o).length : Int) ∧ (∃ o1 o2, Sl w5 49 4 (.slice ad1 l1 cp1) (butL L x i').length (rowsT (butL L x i')) o1 ∧ Sl w5 49 4 (.slice ada1 (l2 + 1) cpa1) (butL L o i').length (rowsT (butL L o i')) o2 ∧ (∀ b, o1 = some b → w2.heap.size ≤ b) ∧ (∀ b, o2 = some b → w2.heap.size ≤ b) ∧ ∀ b, o1 = some b → o2 ≠ some b) ∧ Frm w2.heap.size [] w2 w5 := by
            refine ⟨i + 1, by simp, HIN.out, by rw [HB3.out]; simp, ⟨q1, own1, ?_, ?_, HW1.out, HW2.out, HNE.out⟩, HFR.out⟩
            · rw [HB1.out, ← HL1.out]; exact HS1.out
            · rw [HB2.out, List.length_append, ← HL2.out]; exact HS2.out
          clear HFR HS1 HS2 HW1 HW2 HNE HLO
          have HFIN := Lib.hid hfin
          clear hfin
          go_wp2_with fail
          (try simp only [w4, w5, e2, e3])
          first | exact ⟨HFIN.out, HMS.out⟩ | (refine ⟨?_, HMS.out⟩; (repeat apply Exists.intro); refine ⟨?_, rfl⟩; exact HFIN.out)
        · rw [hx] at hint hb1
          rw [hoo] at hb2 hb3 hbt
          rw [if_pos rfl, List.append_nil] at hb1
          rw [if_pos rfl, List.append_nil] at hb2
          rw [if_pos rfl] at hb3
          rw [if_pos rfl] at hbt
          have HS1 := Lib.hid hs1
          have HS2 := Lib.hid hs2
          have HW1 := Lib.hid hw1
          have HW2 := Lib.hid hw2
          have HNE := Lib.hid hne
          have HFR := Lib.hid hfr
          have HIN := Lib.hid hin
          have HMS := Lib.hid hms
          have HRR := Lib.hid hrr
          have HLO := Lib.hid hlo
          have HINT := Lib.hid hint
          have HB1 := Lib.hid hb1
          have HB2 := Lib.hid hb2
          have HB3 := Lib.hid hb3
          have HBL1 := Lib.hid hbl1
          have HBL2 := Lib.hid hbl2
          have HT := Lib.hid ht
          have HL1 := Lib.hid hl1
          have HL2 := Lib.hid hl2
          have HL3 := Lib.hid hl3
          have HX := Lib.hid hx
          have HOO := Lib.hid hoo
          clear hoo hx hl3 hl2 hl1 ht hbl2 hbl1 hb3 hb2 hb1 hint hlo hrr hms hin hfr hne hw2 hw1 hs2 hs1
          go_wp2_with fail
          refine HINT.out.mono ?_; rintro e1 w3 ⟨rfl, hf3⟩
          have hfr := HFR.out.call hf3 HFR.out.size (by simp)
          have hs1 := HS1.out.frm hf3 (fun b hb => HS1.out.lt b hb) (by simp)
          have hs2 := HS2.out.frm hf3 (fun b hb => HS2.out.lt b hb) (by simp)
          have hlo := fun V (hV : Frm w3.heap.size [] w3 V) => HLO.out V (hf3.call hV hf3.size (by simp))
          clear hf3 HFR HS1 HS2 HLO HINT
          have HFR := Lib.hid hfr
          have HS1 := Lib.hid hs1
          have HS2 := Lib.hid hs2
          have HLO := Lib.hid hlo
          clear hlo hs2 hs1 hfr
          have hfin : ∃ i' : Nat, Value.int .i64 ((i : Int) + 1) = .int .i64 i' ∧ i' ≤ n ∧ Value.int .i64 ((l3 : Int) + 1) = .int .i64 ((bitsOf i' o).length : Int) ∧ (∃ o1 o2, Sl w3 49 4 (.slice ad1 l1 cp1) (butL L x i').length (rowsT (butL L x i')) o1 ∧ Sl w3 49 4 (.slice ad2 l2 cp2) (butL L o i').length (rowsT (butL L o i')) o2 ∧ (∀ b, o1 = some b → w2.heap.size ≤ b) ∧ (∀ b, o2 = some b → w2.heap.size ≤ b) ∧ ∀ b, o1 = some b → o2 ≠ some b) ∧ Frm w2.heap.size [] w2 w3 := by
            refine ⟨i + 1, by simp, HIN.out, by rw [HB3.out]; simp, ⟨q1, q2, ?_, ?_, HW1.out, HW2.out, HNE.out⟩, HFR.out⟩
            · rw [HB1.out, ← HL1.out]; exact HS1.out
            · rw [HB2.out, ← HL2.out]; exact HS2.out
          clear HFR HS1 HS2 HW1 HW2 HNE HLO
          have HFIN := Lib.hid hfin
          clear hfin
          go_wp2_with fail
          (try simp only [w4, w5, e2, e3])
          first | exact ⟨HFIN.out, HMS.out⟩ | (refine ⟨?_, HMS.out⟩; (repeat apply Exists.intro); refine ⟨?_, rfl⟩; exact HFIN.out)
    · -- the end
      have hin' : ¬ (i : Int) < (n : Int) := by omega
      obtain rfl : i = n := by omega
      obtain ⟨_, xb, xo, _, e1, hx1⟩ := hs1.tanks
      cases e1
      obtain ⟨_, yb, yo, _, e2, hx2⟩ := hs2.tanks
      cases e2
      have hbb := but_bits L x i
      rw [← HLX.out] at hbb
      have k1 := hfr.blk K0.out K0.out.lt (by simp)
      have hf := HF.out.call hfr HF.out.size (by simp)
      obtain ⟨l1, hl1⟩ : ∃ l, l = (butL L x i).length := ⟨_, rfl⟩
      obtain ⟨l2, hl2⟩ : ∃ l, l = (butL L o i).length := ⟨_, rfl⟩
      obtain ⟨l3, hl3⟩ : ∃ l, l = (bitsOf i o).length := ⟨_, rfl⟩
      have hst1 := fun V (hV : Frm wr.heap.size [] wr V) => stability_any h ad1 xb xo _ cp1 (fun j => (butL L x i).getD j ta0) V (hx1.frm hV (Nat.le_refl _))
      have hst2 := fun V (hV : Frm wr.heap.size [] wr V) => stability_any h ad2 yb yo _ cp2 (fun j => (butL L o i).getD j ta0) V (hx2.frm hV (Nat.le_refl _))
      rw [← hl1] at hst1 hbb ⊢
      rw [← hl2] at hst2 ⊢
      rw [← hl3]
      have hgo : goodB h i L m (o % 2 ^ i) = decide (m ≤ stabZ h (butL L o i)) := by unfold goodB; rw [but_mod]
      have hgl : o % 2 ^ i < 2 ^ i := Nat.mod_lt _ (Nat.pow_pos (by omega))
      clear hs1 hs2 hw1 hw2 hne hx1 hx2 hfr HF K0 HDR
      have HF := Lib.hid hf
      have K0 := Lib.hid k1
      have HBB := Lib.hid hbb
      have HL1 := Lib.hid hl1
      have HL2 := Lib.hid hl2
      have HL3 := Lib.hid hl3
      have HST1 := Lib.hid hst1
      have HST2 := Lib.hid hst2
      have HGO := Lib.hid hgo
      have HGL := Lib.hid hgl
      clear hgl hgo hst2 hst1 hl3 hl2 hl1 hbb k1 hf
      go_wp2_with (with_reducible refine atLoad 41 rfl ?_; refine wpList_loadE rfl rfl rfl (load_hu K0.out) ?_)
      refine (HST1.out _ (Frm.refl _ _ _)).mono ?_; rintro e w3 ⟨hsr, hf3⟩
      rw [HL1.out] at hsr
      have hsr := stab_but HHU.out HTA.out HN6.out hsr
      obtain ⟨S1, hS1⟩ : ∃ s, s = stabZ h (butL L x i) := ⟨_, rfl⟩
      rw [← hS1] at hsr
      subst hsr
      have k1 := hf3.blk K0.out K0.out.lt (by simp)
      have hf := HF.out.call hf3 HF.out.size (by simp)
      clear HF K0 HST1
      have HF := Lib.hid hf
      have K0 := Lib.hid k1
      have HS1 := Lib.hid hS1
      have HF3 := Lib.hid hf3
      clear hf3 hS1 k1 hf
      go_wp2_with (with_reducible refine atLoad 41 rfl ?_; refine wpList_loadE rfl rfl rfl (load_hu K0.out) ?_)
      refine (HST2.out _ HF3.out).mono ?_; rintro e w4 ⟨hsr, hf4⟩
      rw [HL2.out] at hsr
      have hsr := stab_but HHU.out HTA.out HN6.out hsr
      obtain ⟨S2, hS2⟩ : ∃ s, s = stabZ h (butL L o i) := ⟨_, rfl⟩
      rw [← hS2] at hsr
      subst hsr
      have hf := HF.out.call hf4 HF.out.size (by simp)
      have hgo := HGO.out
      rw [← hS2] at hgo
      have hwhy := HDO.out.why
      clear HF K0 HST2 HF3 hf4 HGO HDO
      have HF := Lib.hid hf
      have HS2 := Lib.hid hS2
      clear hS2 hf
      rcases hwhy with ⟨rfl, rfl, hall⟩ | ⟨rfl, hgx, hall⟩
      · have h1 := hall _ HGL.out
        rw [hgo, decide_eq_false_iff_not] at h1
        have h2 : S2 < m := by omega
        have h3 : decide (S2 < m) = true := by simp [h2]
        have hlx0 : lx = 0 := by rw [HLX.out, bitsOf_zero]; rfl
        subst hlx0
        clear hall hgo h1
        go_wp2_with (go_at_call 18; refine (awake_any _ (HG.out.frm HF.out (Nat.le_refl _))).mono ?_; rintro e9 w9 ⟨rfl, hf9⟩; replace HF := Lib.hid (HF.out.call hf9 HF.out.size (by simp)); clear hf9)
        go_ret
        exact ⟨rfl, HF.out⟩
      · have h1 : m ≤ S1 := by
          unfold goodB at hgx
          rw [decide_eq_true_eq] at hgx
          rw [HS1.out]; exact hgx
        have h2 : decide (m ≤ S1) = true := by simp [h1]
        have hsum : (l1 : Int) + (lx : Int) = (i : Int) := by have := HBB.out; omega
        have e5 : IntKind.i64.wrap ((l1 : Int) + (lx : Int)) = (i : Int) := by rw [hsum]; exact IntWalk.i64_in _ (by have := HN6.out; omega)
        have e6 : wrap64 ((l1 : Int) + (lx : Int)) = (i : Int) := by rw [hsum]; exact IntWalk.wrap64_in _ (by have := HN6.out; omega)
        by_cases h3 : lx ≤ l3
        · have h4 : (lx : Int) ≤ (l3 : Int) := by omega
          have h5 : decide ((lx : Int) ≤ (l3 : Int)) = true := by simp; omega
          have h6 : decide (lx ≤ l3) = true := by simp [h3]
          clear hall hgo hgx hsum
          go_wp2_with (go_at_call 18; refine (awake_any _ (HG.out.frm HF.out (Nat.le_refl _))).mono ?_; rintro e9 w9 ⟨rfl, hf9⟩; replace HF := Lib.hid (HF.out.call hf9 HF.out.size (by simp)); clear hf9)
          go_ret
          exact ⟨rfl, HF.out⟩
        · have h4 : ¬ (lx : Int) ≤ (l3 : Int) := by omega
          have h5 : decide ((lx : Int) ≤ (l3 : Int)) = false := by simp; omega
          have h6 : decide (lx ≤ l3) = false := by simp; omega
          have h7 : S2 < m := by
            cases hg2 : goodB h i L m (o % 2 ^ i)
            · rw [hg2] at hgo
              have := hgo.symm
              rw [decide_eq_false_iff_not] at this
              omega
            · have h8 := hall _ HGL.out hg2
              rw [bits_mod, ← HL3.out, ← HLX.out] at h8
              omega
          have h8 : decide (S2 < m) = true := by simp [h7]
          clear hall hgo hgx hsum
          go_wp2_with (go_at_call 18; refine (awake_any _ (HG.out.frm HF.out (Nat.le_refl _))).mono ?_; rintro e9 w9 ⟨rfl, hf9⟩; replace HF := Lib.hid (HF.out.call hf9 HF.out.size (by simp)); clear hf9)
          go_ret
          exact ⟨rfl, HF.out⟩
/-! the row -/
set_option maxRecDepth 100000 in
theorem careDrains_lifted (os : Os) (started : os.Started) (H : Type) (enc : TypeId × Value → H) :
    ReturnsInHanded {} Tryd.checked os 6 .any (fun w args => (Rows.careDrainsSpec.pre enc Tryd.prog Tryd.f6 [] false w args ∧ laidMetH Tryd.prog laidR w) ∧ sizedMet enc Tryd.prog Tryd.f6 (OpenSpec.ofChange Rows.careDrainsSpec) false w args) (Rows.careDrainsSpec.post enc Tryd.prog Tryd.f6 false true false false) := by
  refine law_liftL (fn := Tryd.f6) (s := Rows.careDrainsSpec) started 4 (by kernel_rfl) Tryd.func6
      (ChangeSpec.witness_shaped (enc := enc) (C := Tryd.checked) (os := os) (X := fun w _ => laidMetH Tryd.prog laidR w) false (World.doorLaid Tryd.prog 400 os)
        #[.agg #[.int .i64 0, .int .i64 0, .int .i64 0], .slice none 0 0, .int .i64 0, .int .u8 0] 8 rfl
        (World.shaped_of_RefB (by kernel_rfl) (by kernel_rfl)) (by kernel_rfl) (by kernel_rfl) (by kernel_rfl) (door_met os _))
      (by rw [Tryd.params6]; decide +kernel) (by rw [Tryd.params6]; rfl) (by kernel_rfl) rfl (fun ds h => by match ds, h with | [d1, d2, d3, d4], _ => rfl) ?_
  intro W base args ds ps hval hA hgl
  rw [Tryd.params6] at hA hval
  obtain ⟨v0, vs0, d0, ds0, p0, q0, hargs, rfl, rfl, h0, r0⟩ := trodAll_cons hA
  obtain ⟨v1, vs1, d1, ds1, p1, q1, rfl, rfl, rfl, h1, r1⟩ := trodAll_cons r0
  obtain ⟨v2, vs2, d2, ds2, p2, q2, rfl, rfl, rfl, h2, r2⟩ := trodAll_cons r1
  obtain ⟨v3, vs3, d3, ds3, p3, q3, rfl, rfl, rfl, h3, r3⟩ := trodAll_cons r2
  obtain ⟨rfl, rfl, rfl⟩ := trodAll_nil r3
  obtain rfl : args = #[v0, v1, v2, v3] := by cases args; simp_all
  obtain ⟨h, rfl⟩ := open_hull (hval 0 41 v0 rfl rfl)
  obtain ⟨ad, len, cap, b, off, L, rfl, hr⟩ := open_tanks (hval 1 42 v1 rfl rfl) h1
  obtain ⟨m, rfl⟩ := okWide_int Tryd.underlying3 (hval 2 3 v2 rfl rfl)
  obtain ⟨o, rfl, ho⟩ := open_u8 (hval 3 5 v3 rfl rfl) h3
  obtain ⟨o, rfl⟩ : ∃ k : Nat, o = (k : Int) := ⟨o.toNat, by omega⟩
  exact drains_walk h ad b off len cap L m o (by omega) W hr hgl

theorem careDrains_over : Rows.CareDrainsSaid :=
  OpenClaim.holds_of_wide 6 Tryd.f6 rfl rfl rfl rfl rfl rfl rfl ⟨rfl, rfl, rfl, rfl, rfl⟩ rfl rfl rfl rfl rfl (by kernel_rfl) Tryd.func6 (by kernel_rfl)
    (of_decide_eq_true (by kernel_rfl)) (by unfold Func.isWrapper; first | (rw [if_pos (by decide +kernel)]; kernel_rfl) | (rw [if_neg (by decide +kernel)]; exact ⟨rfl, rfl⟩))
    (fun os started H enc _ => careDrains_lifted os started H enc)
end Go.Proofs.YtfmigicmfolbjaaDoor
