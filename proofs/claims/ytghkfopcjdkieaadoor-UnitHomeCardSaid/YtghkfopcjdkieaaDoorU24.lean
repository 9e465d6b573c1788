/-
  The space that legs take.
-/
import Derived.Test.YtghkfopcjdkieaaDoorU23
namespace Go.Proofs.YtghkfopcjdkieaaDoor
set_option linter.all false
set_option linter.unusedSimpArgs false
set_option linter.unusedVariables false
open Go.RowKit

theorem run_min2 {P : Program} (p q : Int) (w : World) : (Builtin.min2 (.int .i64 p) (.int .i64 q)).run P w = .ok (.int .i64 (min p q)) w := by
  unfold Builtin.min2
  simp [go_sem, Int.min_def]
  by_cases h : q < p <;> simp_all <;> omega
theorem run_max2 {P : Program} (p q : Int) (w : World) : (Builtin.max2 (.int .i64 p) (.int .i64 q)).run P w = .ok (.int .i64 (max p q)) w := by
  unfold Builtin.max2
  simp [go_sem, Int.max_def]
  by_cases h : p < q <;> simp_all <;> omega
theorem run_min_ {P : Program} (p q : Int) (w : World) : (Builtin.min_ #[3, 3] 3 #[.int .i64 p, .int .i64 q]).run P w = .ok (.int .i64 (min p q)) w := by
  simp [Builtin.min_, run_min2]
theorem run_max_ {P : Program} (p q : Int) (w : World) : (Builtin.max_ #[3, 3] 3 #[.int .i64 p, .int .i64 q]).run P w = .ok (.int .i64 (max p q)) w := by
  simp [Builtin.max_, run_max2]
theorem ceil_fr (n b : Int) (w : World) (h0 : 0 ≤ n) (h1 : n ≤ 4611686018427387904) (b0 : 1 ≤ b) (b1 : b ≤ 1000000000) : Calls Tryd.prog 70 #[.int .i64 n, .int .i64 b] w fun e w' => e = .returned (.int .i64 (ceilZ n b)) ∧ Frm w.heap.size [] w w' :=
  (ceil_any n b w h0 h1 b0 b1).mono fun e w' h => ⟨h.1, h.2 ▸ Frm.refl _ _ _⟩

def pieceF (l : LC) (p j : Nat) : Int := l.start + ((l.arrive - l.start) * j) / p
def pieceT (l : LC) (p j : Nat) : Int := l.start + ceilZ ((l.arrive - l.start) * (j + 1)) p
def pieceBox (u : UC) (l : LC) (p j : Nat) : BC :=
  aroundB u (min (lowZ l (pieceF l p j)).1 (lowZ l (pieceT l p j)).1) (min (lowZ l (pieceF l p j)).2 (lowZ l (pieceT l p j)).2) (max (highZ l (pieceF l p j)).1 (highZ l (pieceT l p j)).1) (max (highZ l (pieceF l p j)).2 (highZ l (pieceT l p j)).2) (pieceF l p j) (pieceT l p j)
def stayBox (u : UC) (l : LC) : BC := aroundB u l.tx l.ty l.tx l.ty l.arrive l.leave
def stayB (l : LC) : Bool := decide (l.arrive < l.leave) || decide (l.start = l.leave)
def pieceN (l : LC) (p : Nat) : Nat := if l.start < l.arrive then p else 0
def legBoxes (u : UC) (l : LC) (p : Nat) : List BC := (List.range (pieceN l p)).map (pieceBox u l p) ++ (if stayB l = true then [stayBox u l] else [])
def boxesOf (u : UC) (L : Nat → LC) (p n : Nat) : List BC := (List.range n).flatMap fun i => legBoxes u (L i) p
def boxC (l : List BC) : List Value := l.flatMap BC.cells
theorem boxesOf_succ (u : UC) (L : Nat → LC) (p n : Nat) : boxesOf u L p (n + 1) = boxesOf u L p n ++ legBoxes u (L n) p := by simp [boxesOf, List.range_succ]
theorem boxC_app (a b : List BC) : boxC (a ++ b) = boxC a ++ boxC b := by simp [boxC]
theorem legBoxes_len (u : UC) (l : LC) (p : Nat) : (legBoxes u l p).length ≤ p + 1 := by
  unfold legBoxes pieceN
  rw [List.length_append, List.length_map, List.length_range]
  split <;> split <;> simp
theorem boxesOf_len (u : UC) (L : Nat → LC) (p : Nat) : ∀ n, (boxesOf u L p n).length ≤ n * (p + 1)
  | 0 => by simp [boxesOf]
  | n + 1 => by
    rw [boxesOf_succ, List.length_append]
    have h1 := boxesOf_len u L p n
    have h2 := legBoxes_len u (L n) p
    rw [Nat.succ_mul]
    omega
theorem place_bound {l : LC} {t : Int} (hB : LegOK l) (hst : l.start ≤ t) :
    ((-72057594037927936 ≤ (lowZ l t).1 ∧ (lowZ l t).1 ≤ 72057594037927936) ∧ (-72057594037927936 ≤ (lowZ l t).2 ∧ (lowZ l t).2 ≤ 72057594037927936)) ∧
    ((-72057594037927936 ≤ (highZ l t).1 ∧ (highZ l t).1 ≤ 72057594037927936) ∧ (-72057594037927936 ≤ (highZ l t).2 ∧ (highZ l t).2 ≤ 72057594037927936)) := by
  have pf := place_in hB.from_
  have pt := place_in hB.to_
  have i1 := hB.start
  have i2 := hB.arrive
  by_cases h : l.arrive ≤ t
  · have e1 : lowZ l t = (l.tx, l.ty) := if_pos h
    have e2 : highZ l t = (l.tx, l.ty) := if_pos h
    rw [e1, e2]
    dsimp only
    omega
  · have ix := mul_in (a := l.tx - l.fx) (n := t - l.start) (by omega) (by omega)
    have iy := mul_in (a := l.ty - l.fy) (n := t - l.start) (by omega) (by omega)
    have j1 := quo_in (b := l.arrive - l.start) ix (by omega)
    have j2 := quo_in (b := l.arrive - l.start) iy (by omega)
    have j3 := quo_in (a := -((l.tx - l.fx) * (t - l.start))) (b := l.arrive - l.start) (by omega) (by omega)
    have j4 := quo_in (a := -((l.ty - l.fy) * (t - l.start))) (b := l.arrive - l.start) (by omega) (by omega)
    unfold lowZ highZ
    rw [if_neg h, if_neg h]
    dsimp only
    omega
theorem wpList_storeNew2 {P : Program} {ops : Array Oper} {rest : List Oper} {o o' : Oper} {a : Act} {w : World} {Q : Exit → Act → World → Prop} (hgd : o.guard = none) (hgd' : o'.guard = none) {ty : TypeId} {x y x' y' : Operand} (ho : o.op = .store ty x y) (ho' : o'.op = .store ty x' y') (hd : o.dst = none) (hd' : o'.dst = none)
    {T : Nat} {zs cs ds : List Value} (hx : a.eval x = .pointer (some ⟨w.heap.size, 0, none⟩)) (hy : a.eval y = .agg cs.toArray) (hx' : a.eval x' = .pointer (some ⟨w.heap.size + 1, 0, none⟩)) (hy' : a.eval y' = .agg ds.toArray)
    (hl : zs.length = cs.length) (hl' : zs.length = ds.length) (hi : (P.info? ty).map (·.size) = some zs.length) (h1 : ∀ v ∈ cs, v.oneCell' = true) (h1' : ∀ v ∈ ds, v.oneCell' = true)
    (h : ∀ W', Frm w.heap.size [] w W' → Blk W' w.heap.size T cs → Blk W' (w.heap.size + 1) T ds → wpList P ops Q rest a W') :
    wpList P ops Q (o :: o' :: rest) a ((w.alloc (.cells zs.toArray T (0, 0))).alloc (.cells zs.toArray T (0, 0))) := by
  have b1 := (Blk.new w T zs).alloc (.cells zs.toArray T (0, 0))
  have b2 : Blk ((w.alloc (.cells zs.toArray T (0, 0))).alloc (.cells zs.toArray T (0, 0))) (w.heap.size + 1) T zs := Blk.new' _ T zs (by simp)
  refine wpList_storeB hgd ho b1 hx hy hl (by rw [hi, hl]) h1 ?_
  have e1 : ∀ v : Value, a.put o.dst v = a := fun v => by rw [hd]; rfl
  have e2 : ∀ v : Value, a.put o'.dst v = a := fun v => by rw [hd']; rfl
  rw [e1]
  refine wpList_storeB hgd' ho' (b2.rowO (g := w.heap.size) (cs := cs.toArray) (by omega)) hx' hy' hl' (by rw [hi, hl']) h1' ?_
  rw [e2]
  refine h _ ?_ ((b1.row cs).rowO (g := w.heap.size + 1) (cs := ds.toArray) (by omega)) ((b2.rowO (g := w.heap.size) (cs := cs.toArray) (by omega)).row ds)
  exact ((((Frm.refl w.heap.size [] w).alloc (Nat.le_refl _) _).alloc (by simp) _).setRow (.inr (Nat.le_refl _)) _).setRow (.inr (Nat.le_succ _)) _
theorem meas_next {n j : Nat} (h : j < n) : n - ((j : Int) + 1).toNat < n - ((j : Int)).toNat := by omega
theorem info87x : (Tryd.prog.info? 87).map (fun i => (i.zero, i.size, i.bytes)) = some (some (.agg #[.int .i64 0, .int .i64 0, .int .i64 0, .int .i64 0, .int .i64 0, .int .i64 0, .int .i64 0]), 7, 56) := by kernel_rfl
attribute [local go_sem ↓ high] run_min_ run_max_ run_min2 run_max2

set_option maxRecDepth 100000 in
set_option maxHeartbeats 4000000 in
theorem boxes_any (u : UC) (s : ByteArray) (hnm : u.name = .string s) (ad : Option Addr) (b off n cap : Nat) (L : Nat → LC) (p : Int) (w : World) (hr : Rw w 8 ad b off n fun i => (L i).cells) (hn : n ≤ 1000) :
    Calls Tryd.prog 33 #[.agg u.cells.toArray, .slice ad n cap, .int .i64 p] w fun e w' => Frm w.heap.size [] w w' ∧
      (((unitB u s && legsB n L) = false ∧ e = .returned (.tuple #[.slice none 0 0, .int .i64 2])) ∨
       ((unitB u s && legsB n L) = true ∧ inB p 1 20 = false ∧ e = .returned (.tuple #[.slice none 0 0, .int .i64 4])) ∨
       ((unitB u s && legsB n L) = true ∧ inB p 1 20 = true ∧ ∃ v own, e = .returned (.tuple #[v, .int .i64 0]) ∧ Sl w' 87 7 v (boxesOf u L p.toNat n).length (boxC (boxesOf u L p.toNat n)) own ∧ (∀ b, own = some b → w.heap.size ≤ b))) := by
  have hf0 := Tryd.func33
  have HR := Lib.hid hr
  have HNM := Lib.hid hnm
  have HN := Lib.hid hn
  clear hn hnm hr
  go_enter Tryd.func33, Tryd.ntmps33
  go_upto_region 1 with fail
  refine namedC ?_; intro W hW
  have hb : Blk W w.heap.size 25 u.cells := by rw [hW]; exact Blk.new w 25 u.cells
  have hf : Frm w.heap.size [] w W := by rw [hW]; repeat (first | with_reducible exact Frm.refl _ _ _ | with_reducible refine Frm.drewN ?_ | with_reducible refine Frm.drew ?_ | ((with_reducible refine Frm.setCell' ?_ ?_); · first | (left; simp; done) | (right; simp; done) | (right; simp; omega)) | ((with_reducible refine Frm.alloc' ?_ ?_); · first | exact Nat.le_refl _ | (simp; done) | (simp; omega)))
  clear hW hf0
  have HX := Lib.hid (And.intro hb hf)
  clear hb hf
  have hsi := UC.info u
  have HSI := Lib.hid hsi
  clear hsi
  cases hu : unitB u s
  · have HU := Lib.hid hu
    clear hu
    go_wp2_with (first | (with_reducible refine atLoad 25 rfl ?_; refine wpList_loadB (ty := 25) rfl rfl HX.out.1 rfl Tryd.underlying25 rfl HSI.out ?_) | (go_at_call 19; refine (checkUnit_any u s HNM.out _).mono ?_; rintro e w1 ⟨rfl, hf1⟩; simp only [HU.out]; replace HX := Lib.hid (boxNext HX.out hf1); clear hf1))
    refine bodyPost_ret (v := .tuple #[.slice none 0 0, .int .i64 2]) (by simp [results, Tryd.results33, go_sem]) rfl ?_
    exact ⟨HX.out.2, .inl ⟨by simp [HU.out], rfl⟩⟩
  cases hl : legsB n L
  · have HU := Lib.hid hu
    have HL := Lib.hid hl
    clear hl hu
    go_wp2_with (first | (with_reducible refine atLoad 25 rfl ?_; refine wpList_loadB (ty := 25) rfl rfl HX.out.1 rfl Tryd.underlying25 rfl HSI.out ?_) | (go_at_call 19; refine (checkUnit_any u s HNM.out _).mono ?_; rintro e w1 ⟨rfl, hf1⟩; simp only [HU.out]; replace HX := Lib.hid (boxNext HX.out hf1); clear hf1) | (go_at_call 64; refine (valid_any ad b off n cap L _ (HR.out.frm HX.out.2 (Nat.le_refl _))).mono ?_; rintro e w1 ⟨rfl, hf1⟩; simp only [HL.out]; replace HX := Lib.hid (boxNext HX.out hf1); clear hf1))
    refine bodyPost_ret (v := .tuple #[.slice none 0 0, .int .i64 2]) (by simp [results, Tryd.results33, go_sem]) rfl ?_
    exact ⟨HX.out.2, .inl ⟨by simp [HU.out, HL.out], rfl⟩⟩
  have hok := uok_of hu
  have hmg : 0 ≤ u.margin ∧ u.margin ≤ 100000 := by
    have h := hu
    unfold unitB limB lim at h
    simp only [Bool.and_eq_true, inB_iff] at h
    omega
  have HU := Lib.hid hu
  have HL := Lib.hid hl
  have HOK := Lib.hid hok
  have HMG := Lib.hid hmg
  clear hmg hok hl hu
  cases hp : inB p 1 20
  · have HPP := Lib.hid hp
    clear hp
    go_wp2_with (first | (with_reducible refine atLoad 25 rfl ?_; refine wpList_loadB (ty := 25) rfl rfl HX.out.1 rfl Tryd.underlying25 rfl HSI.out ?_) | (go_at_call 19; refine (checkUnit_any u s HNM.out _).mono ?_; rintro e w1 ⟨rfl, hf1⟩; simp only [HU.out]; replace HX := Lib.hid (boxNext HX.out hf1); clear hf1) | (go_at_call 64; refine (valid_any ad b off n cap L _ (HR.out.frm HX.out.2 (Nat.le_refl _))).mono ?_; rintro e w1 ⟨rfl, hf1⟩; simp only [HL.out]; replace HX := Lib.hid (boxNext HX.out hf1); clear hf1) | (go_at_call 55; refine (within_any _ _ _ _).mono ?_; rintro e w' ⟨rfl, rfl⟩; simp only [HPP.out]))
    refine bodyPost_ret (v := .tuple #[.slice none 0 0, .int .i64 4]) (by simp [results, Tryd.results33, go_sem]) rfl ?_
    exact ⟨HX.out.2, .inr (.inl ⟨by simp [HU.out, HL.out], HPP.out, rfl⟩)⟩
  have hpr := inB_iff.1 hp
  obtain ⟨pn, hpn⟩ : ∃ pn : Nat, p = pn := ⟨p.toNat, by omega⟩
  subst hpn
  have HPP := Lib.hid hp
  clear hp
  go_upto_region 5 with (first | (with_reducible refine atLoad 25 rfl ?_; refine wpList_loadB (ty := 25) rfl rfl HX.out.1 rfl Tryd.underlying25 rfl HSI.out ?_) | (go_at_call 19; refine (checkUnit_any u s HNM.out _).mono ?_; rintro e w1 ⟨rfl, hf1⟩; simp only [HU.out]; replace HX := Lib.hid (boxNext HX.out hf1); clear hf1) | (go_at_call 64; refine (valid_any ad b off n cap L _ (HR.out.frm HX.out.2 (Nat.le_refl _))).mono ?_; rintro e w1 ⟨rfl, hf1⟩; simp only [HL.out]; replace HX := Lib.hid (boxNext HX.out hf1); clear hf1) | (go_at_call 55; refine (within_any _ _ _ _).mono ?_; rintro e w' ⟨rfl, rfl⟩; simp only [HPP.out]))
  have hlen := HR.out.len
  obtain ⟨c, hc⟩ : ∃ c, c = w.heap.size := ⟨_, rfl⟩
  have hxb := HX.out.1
  have hxf := HX.out.2
  rw [← hc] at hxb ⊢
  clear HX
  have HX := Lib.hid (And.intro hxb hxf)
  clear hxb hxf
  have hcw : w.heap.size ≤ c := Nat.le_of_eq hc.symm
  have HC := Lib.hid hc
  have HCW := Lib.hid hcw
  clear hcw hc
  go_wp2_with fail
  go_loopw [8, 32] (fun s8 s32 wr => ∃ (j : Nat) (own : Option Nat), s32 = .int .i64 j ∧ j ≤ n ∧ Sl wr 87 7 s8 (boxesOf u L pn j).length (boxC (boxesOf u L pn j)) own ∧ (∀ b, own = some b → c + 1 ≤ b) ∧ (Blk wr c 25 u.cells ∧ Frm w.heap.size [] w wr)) (fun _ s32 _ => n - (intOf s32).toNat)
  case atStart => exact ⟨0, none, rfl, Nat.zero_le _, Sl.nil _ _ _, by simp, HX.out⟩
  case round =>
    obtain ⟨j, own, rfl, hj, hsl, hown, hxr⟩ := hrel
    obtain ⟨oa, ocap, rfl⟩ := hsl.form
    by_cases hjl : j < n
    · have hjl' : (j : Int) < (n : Int) := by omega
      have had := HR.out.ad (by omega)
      subst had
      have hrw := HR.out.frm hxr.2 (Nat.le_refl _)
      obtain ⟨f, hf⟩ : ∃ f, f = L j := ⟨_, rfl⟩
      have hlo := hrw.load (P := Tryd.prog) Tryd.underlying49 rfl hjl info49
      rw [← hf] at hlo
      have hlk : LegOK f := by rw [hf]; exact legs_ok HL.out hjl
      obtain ⟨K, hK⟩ : ∃ K, K = (boxesOf u L pn j).length := ⟨_, rfl⟩
      obtain ⟨C, hC⟩ : ∃ C, C = boxC (boxesOf u L pn j) := ⟨_, rfl⟩
      have hKn : K ≤ 21000 := by
        have h1 := boxesOf_len u L pn j
        have h2 : j * (pn + 1) ≤ 1000 * 21 := Nat.mul_le_mul (by have := HN.out; omega) (by omega)
        omega
      rw [← hK, ← hC] at hsl
      rw [← hK]
      have HLO := Lib.hid hlo
      have HRW := Lib.hid hrw
      have HFF := Lib.hid hf
      have HLK := Lib.hid hlk
      have HSL := Lib.hid hsl
      have HOWN := Lib.hid hown
      have HX := Lib.hid hxr
      have HK := Lib.hid hK
      have HCC := Lib.hid hC
      have HKN := Lib.hid hKn
      clear hKn hC hK hxr hown hsl hlk hf hrw hlo
      go_wp2_with (first | (with_reducible refine atLoad 49 rfl ?_; refine wpList_loadE rfl rfl rfl HLO.out ?_) | (with_reducible refine atStore 49 rfl ?_; refine stop_ ?_))
      refine go_on ?_
      refine wpList_storeNew (P := Tryd.prog) (cs := f.cells) rfl rfl rfl rfl rfl info49 (by simp [LC.cells, Value.oneCell']) ?_
      intro W1 hfW1 hbW1 hsz
      obtain ⟨b10, hb10⟩ : ∃ b10, b10 = wr.heap.size := ⟨_, rfl⟩
      rw [← hb10] at hbW1 ⊢
      have hx1 := boxNext HX.out hfW1
      have hs1 := HSL.out.frm hfW1 HSL.out.lt (by simp)
      have ho1 : ∀ b, own = some b → c + 1 ≤ b ∧ b ≠ b10 := fun b hb => ⟨HOWN.out b hb, by have := HSL.out.lt b hb; omega⟩
      have hcb : c + 1 ≤ b10 := by have := HX.out.1.lt; omega
      have k4 : W1.cell? ⟨b10, 4, none⟩ = some (.int .i64 f.start) := hbW1.cell 4
      have k5 : W1.cell? ⟨b10, 5, none⟩ = some (.int .i64 f.arrive) := hbW1.cell 5
      obtain ⟨T, hT⟩ : ∃ T, T = f.arrive - f.start := ⟨_, rfl⟩
      have i1 := HLK.out.start
      have i2 := HLK.out.arrive
      have hTr : 0 ≤ T ∧ T ≤ 1073741824 := by omega
      have hwT : IntKind.i64.wrap (f.arrive - f.start) = T := by rw [hT]; exact IntWalk.i64_in _ (by omega)
      have hwT' : wrap64 (f.arrive - f.start) = T := by rw [hT]; exact IntWalk.wrap64_in _ (by omega)
      clear hfW1 hsz HX HSL HOWN HRW HLO hb10 i1 i2
      have HX := Lib.hid hx1
      have HSL := Lib.hid hs1
      have HOWN := Lib.hid ho1
      have HB10 := Lib.hid hbW1
      have HCB := Lib.hid hcb
      have HT := Lib.hid hT
      have HTR := Lib.hid hTr
      clear hTr hT hcb hbW1 ho1 hs1 hx1
      go_wp2_with fail
      go_loopw [8, 12] (fun s8 s12 wr => ∃ (i : Nat) (ow : Option Nat), s12 = .int .i64 i ∧ i ≤ pieceN f pn ∧ Sl wr 87 7 s8 (K + i) (C ++ boxC ((List.range i).map (pieceBox u f pn))) ow ∧ (∀ b, ow = some b → c + 1 ≤ b ∧ b ≠ b10) ∧ Blk wr b10 49 f.cells ∧ (Blk wr c 25 u.cells ∧ Frm w.heap.size [] w wr)) (fun _ s12 _ => pieceN f pn - (intOf s12).toNat)
      case atStart => exact ⟨0, own, rfl, Nat.zero_le _, by simpa [boxC] using HSL.out, HOWN.out, HB10.out, HX.out⟩
      case round =>
        obtain ⟨i, ow, rfl, hi, hsq, hoq, hbq, hxq⟩ := hrel
        obtain ⟨qa, qcap, rfl⟩ := hsq.form
        clear HX HSL HOWN HB10
        by_cases hil : i < pieceN f pn
        · have hT0 : 0 < T ∧ i < pn := by
            unfold pieceN at hil
            by_cases h : f.start < f.arrive
            · rw [if_pos h] at hil; have := HT.out; omega
            · rw [if_neg h] at hil; omega
          have hT1 := hT0.1
          have hip : (i : Int) < (pn : Int) := by omega
          have hTr := HTR.out
          obtain ⟨m1, hm1⟩ : ∃ m1, m1 = T * (i : Int) := ⟨_, rfl⟩
          obtain ⟨m2, hm2⟩ : ∃ m2, m2 = T * ((i : Int) + 1) := ⟨_, rfl⟩
          have hm1r : 0 ≤ m1 ∧ m1 ≤ 1073741824 * 20 := by
            rw [hm1]; exact ⟨Int.mul_nonneg hTr.1 (by omega), Int.mul_le_mul hTr.2 (by omega) (by omega) (by omega)⟩
          have hm2r : 0 ≤ m2 ∧ m2 ≤ 1073741824 * 20 := by
            rw [hm2]; exact ⟨Int.mul_nonneg hTr.1 (by omega), Int.mul_le_mul hTr.2 (by omega) (by omega) (by omega)⟩
          have hp1 : (1 : Int) ≤ (pn : Int) := by omega
          have hpn0 : ¬ pn = 0 := by omega
          obtain ⟨q1, hq1⟩ : ∃ q1, q1 = m1 / (pn : Int) := ⟨_, rfl⟩
          obtain ⟨q2, hq2⟩ : ∃ q2, q2 = ceilZ m2 (pn : Int) := ⟨_, rfl⟩
          have hq1r : 0 ≤ q1 ∧ q1 ≤ 1073741824 * 20 := by
            rw [hq1]; exact ⟨Int.ediv_nonneg hm1r.1 (by omega), by have := Int.ediv_le_self (a := m1) (pn : Int) hm1r.1; omega⟩
          have hq2r : 0 ≤ q2 ∧ q2 ≤ 1073741824 * 20 + 20 := by
            rw [hq2]; unfold ceilZ
            exact ⟨Int.ediv_nonneg (by omega) (by omega), by have := Int.ediv_le_self (a := m2 + (pn : Int) - 1) (pn : Int) (by omega); omega⟩
          have e1 : IntKind.i64.wrap (T * (i : Int)) = m1 := by rw [← hm1]; exact IntWalk.i64_in _ (by omega)
          have e2 : IntKind.i64.wrap ((i : Int) + 1) = (i : Int) + 1 := IntWalk.i64_in _ (by omega)
          have e3 : IntKind.i64.wrap (T * ((i : Int) + 1)) = m2 := by rw [← hm2]; exact IntWalk.i64_in _ (by omega)
          have e4 : m1.tdiv (pn : Int) = q1 := by rw [hq1]; exact Int.tdiv_eq_ediv_of_nonneg hm1r.1
          have e4' : m1 / (pn : Int) = q1 := hq1.symm
          have hst := HLK.out.start
          obtain ⟨fr, hfr⟩ : ∃ fr, fr = f.start + q1 := ⟨_, rfl⟩
          obtain ⟨tt, htt⟩ : ∃ tt, tt = f.start + q2 := ⟨_, rfl⟩
          have e5 : IntKind.i64.wrap (f.start + q1) = fr := by rw [hfr]; exact IntWalk.i64_in _ (by omega)
          have e6 : IntKind.i64.wrap (f.start + q2) = tt := by rw [htt]; exact IntWalk.i64_in _ (by omega)
          have e7 : IntKind.i64.wrap q1 = q1 := IntWalk.i64_in _ (by omega)
          have hfr2 : pieceF f pn i = fr := by unfold pieceF; rw [hfr, hq1, hm1, HT.out]
          have htt2 : pieceT f pn i = tt := by unfold pieceT; rw [htt, hq2, hm2, HT.out]
          have hfrs : f.start ≤ fr := by omega
          have htts : f.start ≤ tt := by omega
          have hfx : ∀ V, Frm wr.heap.size [] wr V → V.cell? ⟨b10, 4, none⟩ = some (.int .i64 f.start) := fun V hV => (hV.blk hbq hbq.lt (by simp)).cell 4
          clear hq1 hm1 hm2 hfr htt hst
          have HFX := Lib.hid hfx
          have HSQ := Lib.hid hsq
          have HOQ := Lib.hid hoq
          have HBQ := Lib.hid hbq
          have HXQ := Lib.hid hxq
          have HFR2 := Lib.hid hfr2
          have HTT2 := Lib.hid htt2
          have HFRS := Lib.hid hfrs
          have HTTS := Lib.hid htts
          have HQ1 := Lib.hid hq1r
          have HQ2 := Lib.hid hq2r
          have HM2 := Lib.hid hm2r
          have HT0 := Lib.hid hT0
          have HQQ := Lib.hid hq2
          have HTR2 := Lib.hid hTr
          clear hTr hq2 hT0 hm2r hq2r hq1r htts hfrs htt2 hfr2 hxq hbq hoq hsq hfx
          go_upto_region 13 with fail
          refine wp_region_leftL (fun V => Frm wr.heap.size [] wr V) 1000 (by kernel_rfl) ?_
          have hS : Frm wr.heap.size [] wr wr.drew := (Frm.refl _ _ wr).drew
          have HS := Lib.hid hS
          clear hS
          refine LeftL.run (v := ?_) 0 rfl (by kernel_rfl) rfl (fun _ _ d _ _ h => by cases d <;> exact h) ?_ HS.out ?_; rotate_left; (· intro V hV; obtain q0 := HFX.out V hV; clear hV; go_simp; rfl); (intro K' hK'; go_simp; refine hK' _ ?_; clear hK' K')
          refine LeftL.run (v := ?_) 1 rfl (by kernel_rfl) rfl (fun _ _ d _ _ h => by cases d <;> exact h) ?_ HS.out ?_; rotate_left; (· intro V hV; obtain q0 := HFX.out V hV; clear hV; go_simp; rfl); (intro K' hK'; go_simp; refine hK' _ ?_; clear hK' K')
          refine LeftL.run (v := ?_) 2 rfl (by kernel_rfl) rfl (fun _ _ d _ _ h => by cases d <;> exact h) ?_ HS.out ?_; rotate_left; (· intro V hV; obtain q0 := HFX.out V hV; clear hV; go_simp; rfl); (intro K' hK'; go_simp; refine hK' _ ?_; clear hK' K')
          refine LeftL.run (v := ?_) 3 rfl (by kernel_rfl) rfl (fun _ _ d _ _ h => by cases d <;> exact h) ?_ HS.out ?_; rotate_left; (· intro V hV; obtain q0 := HFX.out V hV; clear hV; go_simp; rfl); (intro K' hK'; go_simp; refine hK' _ ?_; clear hK' K')
          refine LeftL.run (v := ?_) 4 rfl (by kernel_rfl) rfl (fun _ _ d _ _ h => by cases d <;> exact h) ?_ HS.out ?_; rotate_left; (· intro V hV; obtain q0 := HFX.out V hV; clear hV; go_simp; rfl); (intro K' hK'; go_simp; refine hK' _ ?_; clear hK' K')
          refine LeftL.run (v := ?_) 5 rfl (by kernel_rfl) rfl (fun _ _ d _ _ h => by cases d <;> exact h) ?_ HS.out ?_; rotate_left; (· intro V hV; obtain q0 := HFX.out V hV; clear hV; go_simp; rfl); (intro K' hK'; go_simp; refine hK' _ ?_; clear hK' K')
          refine LeftL.run (v := ?_) 6 rfl (by kernel_rfl) rfl (fun _ _ d _ _ h => by cases d <;> exact h) ?_ HS.out ?_; rotate_left; (· intro V hV; obtain q0 := HFX.out V hV; clear hV; go_simp; rfl); (intro K' hK'; go_simp; refine hK' _ ?_; clear hK' K')
          refine LeftL.run (v := ?_) 7 rfl (by kernel_rfl) rfl (fun _ _ d _ _ h => by cases d <;> exact h) ?_ HS.out ?_; rotate_left; (· intro V hV; obtain q0 := HFX.out V hV; clear hV; go_simp; rfl); (intro K' hK'; go_simp; refine hK' _ ?_; clear hK' K')
          refine LeftL.run (v := ?_) 8 rfl (by kernel_rfl) rfl (fun _ _ d _ _ h => by cases d <;> exact h) ?_ HS.out ?_; rotate_left; (· intro V hV; obtain q0 := HFX.out V hV; clear hV; go_simp; rfl); (intro K' hK'; go_simp; refine hK' _ ?_; clear hK' K')
          refine LeftL.run (v := ?_) 9 rfl (by kernel_rfl) rfl (fun _ _ d _ _ h => by cases d <;> exact h) ?_ HS.out ?_; rotate_left; (· intro V hV; obtain q0 := HFX.out V hV; clear hV; go_simp; rfl); (intro K' hK'; go_simp; refine hK' _ ?_; clear hK' K')
          refine LeftL.run (v := ?_) 10 rfl (by kernel_rfl) rfl (fun _ _ d _ _ h => by cases d <;> exact h) ?_ HS.out ?_; rotate_left; (· intro V hV; obtain q0 := HFX.out V hV; clear hV; go_simp; rfl); (intro K' hK'; go_simp; refine hK' _ ?_; clear hK' K')
          refine LeftL.run (v := ?_) 11 rfl (by kernel_rfl) rfl (fun _ _ d _ _ h => by cases d <;> exact h) ?_ HS.out ?_; rotate_left; (· intro V hV; obtain q0 := HFX.out V hV; clear hV; go_simp; rfl); (intro K' hK'; go_simp; refine hK' _ ?_; clear hK' K')
          refine LeftL.run (v := ?_) 12 rfl (by kernel_rfl) rfl (fun _ _ d _ _ h => by cases d <;> exact h) ?_ HS.out ?_; rotate_left; (· intro V hV; obtain q0 := HFX.out V hV; clear hV; go_simp; rfl); (intro K' hK'; go_simp; refine hK' _ ?_; clear hK' K')
          refine LeftL.run (v := ?_) 13 rfl (by kernel_rfl) rfl (fun _ _ d _ _ h => by cases d <;> exact h) ?_ HS.out ?_; rotate_left; (· intro V hV; obtain q0 := HFX.out V hV; clear hV; go_simp; rfl); (intro K' hK'; go_simp; refine hK' _ ?_; clear hK' K')
          refine LeftL.run (v := ?_) 14 rfl (by kernel_rfl) rfl (fun _ _ d _ _ h => by cases d <;> exact h) ?_ HS.out ?_; rotate_left; (· intro V hV; obtain q0 := HFX.out V hV; clear hV; go_simp; rfl); (intro K' hK'; go_simp; refine hK' _ ?_; clear hK' K')
          refine LeftL.one 15 rfl (by kernel_rfl) ?_
          go_wp2_with fail
          refine (ceil_fr _ _ _ HM2.out.1 (by have := HM2.out; omega) hp1 (by omega)).mono ?_; rintro e w1 ⟨rfl, hf1⟩
          have hS1 := HS.out.call hf1 HS.out.size (by simp)
          clear hf1 HS
          have HS := Lib.hid hS1
          clear hS1
          rw [← HQQ.out]
          go_wp2_with fail
          first | refine ⟨fun _ => HS.out, ?_⟩ | refine ⟨HS.out, ?_⟩
          refine LeftL.run (v := ?_) 16 rfl (by kernel_rfl) rfl (fun _ _ d _ _ h => by cases d <;> exact h) ?_ HS.out ?_; rotate_left; (· intro V hV; obtain q0 := HFX.out V hV; clear hV; go_simp; rfl); (intro K' hK'; go_simp; refine hK' _ ?_; clear hK' K')
          refine LeftL.one 17 rfl (by kernel_rfl) ?_
          go_wp2_with fail
          first | refine ⟨fun _ => HS.out, ?_⟩ | refine ⟨HS.out, ?_⟩
          refine LeftL.one 18 rfl (by kernel_rfl) ?_
          go_wp2_with fail
          first | refine ⟨fun _ => HS.out, ?_⟩ | refine ⟨HS.out, ?_⟩
          refine LeftL.done (by kernel_rfl) ?_
          go_upto_region 14 with fail
          refine namedC ?_; intro W2 hW2
          have hs2 : Frm wr.heap.size [] wr W2 := by rw [hW2]; exact HS.out
          clear HS hW2 HFX e1 e2 e3 e4 e4' e5 e6 e7
          have x2 := boxNext HXQ.out hs2
          have s2 := HSQ.out.frm hs2 HSQ.out.lt (by simp)
          have b2 := hs2.blk HBQ.out HBQ.out.lt (by simp)
          have hlo2 := loadVarB b2 (P := Tryd.prog) Tryd.underlying49 rfl info49
          have pb1 := place_bound HLK.out HFRS.out
          have pb2 := place_bound HLK.out HTTS.out
          clear HXQ HSQ HBQ hs2
          have HXQ := Lib.hid x2
          have HSQ := Lib.hid s2
          have HBQ := Lib.hid b2
          have HLO2 := Lib.hid hlo2
          have PB1 := Lib.hid pb1
          have PB2 := Lib.hid pb2
          clear pb2 pb1 hlo2 b2 s2 x2
          go_wp2_with (with_reducible refine atLoad 49 rfl ?_; refine wpList_loadE rfl rfl rfl HLO2.out ?_)
          refine (place_any f fr W2 HLK.out HFRS.out).mono ?_; rintro e w3 ⟨rfl, hf3⟩
          have x3 := boxNext HXQ.out hf3
          have s3 := HSQ.out.frm hf3 HSQ.out.lt (by simp)
          have b3 := hf3.blk HBQ.out HBQ.out.lt (by simp)
          clear HXQ HSQ HBQ hf3 HLO2
          have HXQ := Lib.hid x3
          have HSQ := Lib.hid s3
          have HBQ := Lib.hid b3
          clear b3 s3 x3
          go_wp2_with (with_reducible refine atStore 23 rfl ?_; refine stop_ ?_)
          refine go_on ?_
          obtain ⟨p15, hp15⟩ : ∃ p15, p15 = w3.heap.size := ⟨_, rfl⟩
          refine wpList_storeNew2 (zs := [.int .i64 0, .int .i64 0]) (cs := [.int .i64 (lowZ f fr).1, .int .i64 (lowZ f fr).2]) (ds := [.int .i64 (highZ f fr).1, .int .i64 (highZ f fr).2]) rfl rfl rfl rfl rfl rfl rfl rfl rfl rfl rfl rfl (by kernel_rfl) (by simp [Value.oneCell']) (by simp [Value.oneCell']) ?_
          intro W4 hf4 b15 b16
          rw [← hp15] at b15 b16 ⊢
          have x4 := boxNext HXQ.out hf4
          have s4 := HSQ.out.frm hf4 HSQ.out.lt (by simp)
          have b4 := hf4.blk HBQ.out HBQ.out.lt (by simp)
          have hlo4 := loadVarB b4 (P := Tryd.prog) Tryd.underlying49 rfl info49
          clear HXQ HSQ HBQ hf4 hp15
          have HXQ := Lib.hid x4
          have HSQ := Lib.hid s4
          have HBQ := Lib.hid b4
          have HB15 := Lib.hid b15
          have HB16 := Lib.hid b16
          have HLO4 := Lib.hid hlo4
          clear hlo4 b16 b15 b4 s4 x4
          go_wp2_with (with_reducible refine atLoad 49 rfl ?_; refine wpList_loadE rfl rfl rfl HLO4.out ?_)
          refine (place_any f tt W4 HLK.out HTTS.out).mono ?_; rintro e w5 ⟨rfl, hf5⟩
          have x5 := boxNext HXQ.out hf5
          have s5 := HSQ.out.frm hf5 HSQ.out.lt (by simp)
          have b5 := hf5.blk HBQ.out HBQ.out.lt (by simp)
          have b15' := hf5.blk HB15.out HB15.out.lt (by simp)
          have b16' := hf5.blk HB16.out HB16.out.lt (by simp)
          clear HXQ HSQ HBQ hf5 HLO4 HB15 HB16
          have HXQ := Lib.hid x5
          have HSQ := Lib.hid s5
          have HBQ := Lib.hid b5
          have HB15 := Lib.hid b15'
          have HB16 := Lib.hid b16'
          clear b16' b15' b5 s5 x5
          go_wp2_with (with_reducible refine atStore 23 rfl ?_; refine stop_ ?_)
          refine go_on ?_
          obtain ⟨p17, hp17⟩ : ∃ p17, p17 = w5.heap.size := ⟨_, rfl⟩
          refine wpList_storeNew2 (zs := [.int .i64 0, .int .i64 0]) (cs := [.int .i64 (lowZ f tt).1, .int .i64 (lowZ f tt).2]) (ds := [.int .i64 (highZ f tt).1, .int .i64 (highZ f tt).2]) rfl rfl rfl rfl rfl rfl rfl rfl rfl rfl rfl rfl (by kernel_rfl) (by simp [Value.oneCell']) (by simp [Value.oneCell']) ?_
          intro W6 hf6 b17 b18
          rw [← hp17] at b17 b18 ⊢
          have x6 := boxNext HXQ.out hf6
          have s6 := HSQ.out.frm hf6 HSQ.out.lt (by simp)
          have b6 := hf6.blk HBQ.out HBQ.out.lt (by simp)
          have b15' := hf6.blk HB15.out HB15.out.lt (by simp)
          have b16' := hf6.blk HB16.out HB16.out.lt (by simp)
          clear HXQ HSQ HBQ hf6 HB15 HB16 hp17
          obtain ⟨ax, hax⟩ : ∃ ax, ax = (lowZ f fr).1 := ⟨_, rfl⟩
          obtain ⟨ay, hay⟩ : ∃ ay, ay = (lowZ f fr).2 := ⟨_, rfl⟩
          obtain ⟨bx, hbx⟩ : ∃ bx, bx = (highZ f fr).1 := ⟨_, rfl⟩
          obtain ⟨by_, hby⟩ : ∃ by_, by_ = (highZ f fr).2 := ⟨_, rfl⟩
          obtain ⟨cx, hcx⟩ : ∃ cx, cx = (lowZ f tt).1 := ⟨_, rfl⟩
          obtain ⟨cy, hcy⟩ : ∃ cy, cy = (lowZ f tt).2 := ⟨_, rfl⟩
          obtain ⟨dx, hdx⟩ : ∃ dx, dx = (highZ f tt).1 := ⟨_, rfl⟩
          obtain ⟨dy, hdy⟩ : ∃ dy, dy = (highZ f tt).2 := ⟨_, rfl⟩
          have pb1 := PB1.out
          have pb2 := PB2.out
          have hbox : pieceBox u f pn i = aroundB u (min ax cx) (min ay cy) (max bx dx) (max by_ dy) fr tt := by unfold pieceBox; rw [HFR2.out, HTT2.out, hax, hay, hbx, hby, hcx, hcy, hdx, hdy]
          rw [← hax, ← hay] at b15' pb1
          rw [← hbx, ← hby] at b16' pb1
          rw [← hcx, ← hcy] at b17 pb2
          rw [← hdx, ← hdy] at b18 pb2
          rw [← hax, ← hay, ← hbx, ← hby, ← hcx, ← hcy, ← hdx, ← hdy]
          have g0 : W6.cell? ⟨p15, 0, none⟩ = some (.int .i64 ax) := b15'.cell 0
          have g1 : W6.cell? ⟨p15, 1, none⟩ = some (.int .i64 ay) := b15'.cell 1
          have g2 : W6.cell? ⟨p15 + 1, 0, none⟩ = some (.int .i64 bx) := b16'.cell 0
          have g3 : W6.cell? ⟨p15 + 1, 1, none⟩ = some (.int .i64 by_) := b16'.cell 1
          have g4 : W6.cell? ⟨p17, 0, none⟩ = some (.int .i64 cx) := b17.cell 0
          have g5 : W6.cell? ⟨p17, 1, none⟩ = some (.int .i64 cy) := b17.cell 1
          have g6 : W6.cell? ⟨p17 + 1, 0, none⟩ = some (.int .i64 dx) := b18.cell 0
          have g7 : W6.cell? ⟨p17 + 1, 1, none⟩ = some (.int .i64 dy) := b18.cell 1
          have hlo6 := loadVarB x6.1 (P := Tryd.prog) Tryd.underlying25 rfl HSI.out
          clear hax hay hbx hby hcx hcy hdx hdy b15' b16' b17 b18 PB1 PB2
          have HXQ := Lib.hid x6
          have HSQ := Lib.hid s6
          have HBQ := Lib.hid b6
          have HLO6 := Lib.hid hlo6
          have PB1 := Lib.hid pb1
          have PB2 := Lib.hid pb2
          have HBOX := Lib.hid hbox
          clear hbox pb2 pb1 hlo6 b6 s6 x6
          go_wp2_with (with_reducible refine atLoad 25 rfl ?_; refine wpList_loadE rfl rfl rfl HLO6.out ?_)
          refine (around_any u _ _ _ _ fr tt W6 HMG.out (by have := PB1.out; have := PB2.out; omega) (by have := PB1.out; have := PB2.out; omega) (by have := PB1.out; have := PB2.out; omega) (by have := PB1.out; have := PB2.out; omega)).mono ?_; rintro e w7 ⟨rfl, hf7⟩
          obtain ⟨bb, hbb⟩ : ∃ bb, bb = pieceBox u f pn i := ⟨_, rfl⟩
          rw [← HBOX.out, ← hbb]
          have x7 := boxNext HXQ.out hf7
          have s7 := HSQ.out.frm hf7 HSQ.out.lt (by simp)
          have b7 := hf7.blk HBQ.out HBQ.out.lt (by simp)
          obtain ⟨i0, hi0, hz0', hz1, hz2⟩ := info_parts3 info87x
          clear HXQ HSQ HBQ hf7 HLO6 g0 g1 g2 g3 g4 g5 g6 g7 PB1 PB2 HBOX
          have HXQ := Lib.hid x7
          have HSQ := Lib.hid s7
          have HBQ := Lib.hid b7
          have HI0 := Lib.hid hi0
          have HZ0 := Lib.hid hz0'
          have HZ1 := Lib.hid hz1
          have HZ2 := Lib.hid hz2
          have HBB := Lib.hid hbb
          clear hbb hz2 hz1 hz0' hi0 b7 s7 x7
          simp only [BC.cells]
          have hi20 := HT0.out.2
          go_wp2_with (at_builtin; refine wpList_append_sl _ rfl (.tmp 79) (.tmp 106) 57 rfl 87 i0 _ 7 56 Tryd.underlying57 HI0.out HZ0.out HZ1.out HZ2.out rfl _ (K + i) _ ow rfl (HSQ.out.alloc _) ⟨w7.heap.size, 0, none⟩ 1 1 bb.cells rfl rfl (news_alloc _ bb.cells _) (by simp [BC.cells, Value.oneCell']) (by have := HKN.out; unfold maxLen; omega) (by have := HKN.out; omega) ?_; intro v1 w8 own1 hs1 hf1 ho1; obtain ⟨ad1, cp1, rfl⟩ := hs1.form; have HS1 := Lib.hid hs1; have HF1 := Lib.hid hf1; have HO1 := Lib.hid ho1; clear hs1 hf1 ho1)
          have hb10 := HBQ.out.lt
          have hcl := HXQ.out.1.lt
          have hno : ∀ b, own1 = some b → c + 1 ≤ b ∧ b ≠ b10 := fun b hb => by
            rcases HO1.out with h | ⟨g, h, hg⟩
            · exact HOQ.out b (by rw [← h]; exact hb)
            · rw [hb] at h; cases h; simp at hg; omega
          refine ⟨⟨i + 1, own1, by simp, hil, ?_, hno, ?_, ?_, ?_⟩, by simp [intOf]; omega⟩
          · have e : C ++ boxC ((List.range (i + 1)).map (pieceBox u f pn)) = (C ++ boxC ((List.range i).map (pieceBox u f pn))) ++ bb.cells := by
              rw [HBB.out]; simp [List.range_succ, boxC]
            rw [e]
            exact HS1.out
          · exact HF1.out.blk (HBQ.out.alloc _) (by simp; omega) (fun hm => (HOQ.out b10 (by simpa using hm)).2 rfl)
          · exact HF1.out.blk (HXQ.out.1.alloc _) (by simp; omega) (fun hm => by have := (HOQ.out c (by simpa using hm)).1; omega)
          · exact (HXQ.out.2.alloc HXQ.out.2.size _).call HF1.out (by have := HXQ.out.2.size; simp; omega) (fun x hx hm => by have := (HOQ.out x (by simpa using hm)).1; have := HCW.out; omega)
        · have hie : i = pieceN f pn := by omega
          have hcond : (0 < T ∧ (i : Int) = pn) ∨ ¬ 0 < T := by
            unfold pieceN at hie
            by_cases h : f.start < f.arrive
            · rw [if_pos h] at hie; left; have := HT.out; omega
            · right; have := HT.out; omega
          subst hie
          clear hil
          have HSQ := Lib.hid hsq
          have HOQ := Lib.hid hoq
          have HBQ := Lib.hid hbq
          have HXQ := Lib.hid hxq
          clear hxq hbq hoq hsq
          obtain ⟨i, hii⟩ : ∃ i, i = pieceN f pn := ⟨_, rfl⟩
          rw [← hii] at HSQ hcond ⊢
          have HII := Lib.hid hii
          clear hii
          rcases hcond with ⟨hT0, hip⟩ | hT0
          · skip
            have g2 : wr.cell? ⟨b10, 2, none⟩ = some (.int .i64 f.tx) := HBQ.out.cell 2
            have g3 : wr.cell? ⟨b10, 3, none⟩ = some (.int .i64 f.ty) := HBQ.out.cell 3
            have g4 : wr.cell? ⟨b10, 4, none⟩ = some (.int .i64 f.start) := HBQ.out.cell 4
            have g5 : wr.cell? ⟨b10, 5, none⟩ = some (.int .i64 f.arrive) := HBQ.out.cell 5
            have g6 : wr.cell? ⟨b10, 6, none⟩ = some (.int .i64 f.leave) := HBQ.out.cell 6
            have hlo6 := loadVarB HXQ.out.1 (P := Tryd.prog) Tryd.underlying25 rfl HSI.out
            have hi20 : i ≤ 20 := by
              have := HII.out; unfold pieceN at this; split at this <;> omega
            have HLO6 := Lib.hid hlo6
            have HI20 := Lib.hid hi20
            clear hi20 hlo6
            by_cases ha : f.arrive < f.leave
            · skip
              skip
              have hstay : stayB f = true := by unfold stayB; simp [ha]
              have hlen2 : (boxesOf u L pn (j + 1)).length = K + i + 1 := by
                rw [boxesOf_succ, List.length_append, ← HK.out, ← HFF.out]; unfold legBoxes; rw [if_pos hstay, ← HII.out]; simp; omega
              have hcel2 : boxC (boxesOf u L pn (j + 1)) = (C ++ boxC ((List.range i).map (pieceBox u f pn))) ++ (stayBox u f).cells := by
                rw [boxesOf_succ, boxC_app, ← HCC.out, ← HFF.out]; unfold legBoxes; rw [if_pos hstay, ← HII.out, boxC_app]; simp [boxC]
              clear hstay
              obtain ⟨i0, hi0, hz0', hz1, hz2⟩ := info_parts3 info87x
              have pt := place_in HLK.out.to_
              have HI0 := Lib.hid hi0
              have HZ0 := Lib.hid hz0'
              have HZ1 := Lib.hid hz1
              have HZ2 := Lib.hid hz2
              have HLEN2 := Lib.hid hlen2
              have HCEL2 := Lib.hid hcel2
              have PTT := Lib.hid pt
              clear pt hcel2 hlen2 hz2 hz1 hz0' hi0
              go_wp2_with (with_reducible refine atLoad 25 rfl ?_; refine wpList_loadE rfl rfl rfl HLO6.out ?_)
              refine (around_any u _ _ _ _ _ _ wr HMG.out (by have := PTT.out; omega) (by have := PTT.out; omega) (by have := PTT.out; omega) (by have := PTT.out; omega)).mono ?_; rintro e w7 ⟨rfl, hf7⟩
              obtain ⟨bb, hbb⟩ : ∃ bb, bb = stayBox u f := ⟨_, rfl⟩
              rw [show aroundB u f.tx f.ty f.tx f.ty f.arrive f.leave = bb from hbb.symm]
              have x7 := boxNext HXQ.out hf7
              have s7 := HSQ.out.frm hf7 HSQ.out.lt (by simp)
              clear HXQ HSQ HBQ hf7 HLO6 g2 g3 g4 g5 g6
              have HXQ := Lib.hid x7
              have HSQ := Lib.hid s7
              have HBB := Lib.hid hbb
              clear hbb s7 x7
              simp only [BC.cells]
              go_wp2_with (at_builtin; refine wpList_append_sl _ rfl (.tmp 120) (.tmp 131) 57 rfl 87 i0 _ 7 56 Tryd.underlying57 HI0.out HZ0.out HZ1.out HZ2.out rfl _ (K + i) _ ow rfl (HSQ.out.alloc _) ⟨w7.heap.size, 0, none⟩ 1 1 bb.cells rfl rfl (news_alloc _ bb.cells _) (by simp [BC.cells, Value.oneCell']) (by have := HKN.out; have := HI20.out; unfold maxLen; omega) (by have := HKN.out; have := HI20.out; omega) ?_; intro v1 w8 own1 hs1 hf1 ho1; obtain ⟨ad1, cp1, rfl⟩ := hs1.form; have HS1 := Lib.hid hs1; have HF1 := Lib.hid hf1; have HO1 := Lib.hid ho1; clear hs1 hf1 ho1)
              have hwr : wrap64 ((j : Int) + 1) = (j : Int) + 1 := IntWalk.wrap64_in _ (by have := HN.out; omega)
              have hcl := HXQ.out.1.lt
              have hno : ∀ b, own1 = some b → c + 1 ≤ b := fun b hb => by
                rcases HO1.out with h | ⟨g, h, hg⟩
                · exact (HOQ.out b (by rw [← h]; exact hb)).1
                · rw [hb] at h; cases h; simp at hg; omega
              refine ⟨⟨j + 1, own1, by rw [hwr]; simp, hjl, ?_, hno, ?_, ?_⟩, by rw [hwr]; exact meas_next hjl⟩
              · rw [HLEN2.out, HCEL2.out, ← HBB.out]; exact HS1.out
              · exact HF1.out.blk (HXQ.out.1.alloc _) (by simp; omega) (fun hm => by have := (HOQ.out c (by simpa using hm)).1; omega)
              · exact (HXQ.out.2.alloc HXQ.out.2.size _).call HF1.out (by have := HXQ.out.2.size; simp; omega) (fun x hx hm => by have := (HOQ.out x (by simpa using hm)).1; have := HCW.out; omega)
            · by_cases hb : f.start = f.leave
              · skip
                skip
                have hstay : stayB f = true := by unfold stayB; simp [hb]
                have hlen2 : (boxesOf u L pn (j + 1)).length = K + i + 1 := by
                  rw [boxesOf_succ, List.length_append, ← HK.out, ← HFF.out]; unfold legBoxes; rw [if_pos hstay, ← HII.out]; simp; omega
                have hcel2 : boxC (boxesOf u L pn (j + 1)) = (C ++ boxC ((List.range i).map (pieceBox u f pn))) ++ (stayBox u f).cells := by
                  rw [boxesOf_succ, boxC_app, ← HCC.out, ← HFF.out]; unfold legBoxes; rw [if_pos hstay, ← HII.out, boxC_app]; simp [boxC]
                clear hstay
                obtain ⟨i0, hi0, hz0', hz1, hz2⟩ := info_parts3 info87x
                have pt := place_in HLK.out.to_
                have HI0 := Lib.hid hi0
                have HZ0 := Lib.hid hz0'
                have HZ1 := Lib.hid hz1
                have HZ2 := Lib.hid hz2
                have HLEN2 := Lib.hid hlen2
                have HCEL2 := Lib.hid hcel2
                have PTT := Lib.hid pt
                clear pt hcel2 hlen2 hz2 hz1 hz0' hi0
                go_wp2_with (with_reducible refine atLoad 25 rfl ?_; refine wpList_loadE rfl rfl rfl HLO6.out ?_)
                refine (around_any u _ _ _ _ _ _ wr HMG.out (by have := PTT.out; omega) (by have := PTT.out; omega) (by have := PTT.out; omega) (by have := PTT.out; omega)).mono ?_; rintro e w7 ⟨rfl, hf7⟩
                obtain ⟨bb, hbb⟩ : ∃ bb, bb = stayBox u f := ⟨_, rfl⟩
                rw [show aroundB u f.tx f.ty f.tx f.ty f.arrive f.leave = bb from hbb.symm]
                have x7 := boxNext HXQ.out hf7
                have s7 := HSQ.out.frm hf7 HSQ.out.lt (by simp)
                clear HXQ HSQ HBQ hf7 HLO6 g2 g3 g4 g5 g6
                have HXQ := Lib.hid x7
                have HSQ := Lib.hid s7
                have HBB := Lib.hid hbb
                clear hbb s7 x7
                simp only [BC.cells]
                go_wp2_with (at_builtin; refine wpList_append_sl _ rfl (.tmp 120) (.tmp 131) 57 rfl 87 i0 _ 7 56 Tryd.underlying57 HI0.out HZ0.out HZ1.out HZ2.out rfl _ (K + i) _ ow rfl (HSQ.out.alloc _) ⟨w7.heap.size, 0, none⟩ 1 1 bb.cells rfl rfl (news_alloc _ bb.cells _) (by simp [BC.cells, Value.oneCell']) (by have := HKN.out; have := HI20.out; unfold maxLen; omega) (by have := HKN.out; have := HI20.out; omega) ?_; intro v1 w8 own1 hs1 hf1 ho1; obtain ⟨ad1, cp1, rfl⟩ := hs1.form; have HS1 := Lib.hid hs1; have HF1 := Lib.hid hf1; have HO1 := Lib.hid ho1; clear hs1 hf1 ho1)
                have hwr : wrap64 ((j : Int) + 1) = (j : Int) + 1 := IntWalk.wrap64_in _ (by have := HN.out; omega)
                have hcl := HXQ.out.1.lt
                have hno : ∀ b, own1 = some b → c + 1 ≤ b := fun b hb => by
                  rcases HO1.out with h | ⟨g, h, hg⟩
                  · exact (HOQ.out b (by rw [← h]; exact hb)).1
                  · rw [hb] at h; cases h; simp at hg; omega
                refine ⟨⟨j + 1, own1, by rw [hwr]; simp, hjl, ?_, hno, ?_, ?_⟩, by rw [hwr]; exact meas_next hjl⟩
                · rw [HLEN2.out, HCEL2.out, ← HBB.out]; exact HS1.out
                · exact HF1.out.blk (HXQ.out.1.alloc _) (by simp; omega) (fun hm => by have := (HOQ.out c (by simpa using hm)).1; omega)
                · exact (HXQ.out.2.alloc HXQ.out.2.size _).call HF1.out (by have := HXQ.out.2.size; simp; omega) (fun x hx hm => by have := (HOQ.out x (by simpa using hm)).1; have := HCW.out; omega)
              · skip
                have hstay : ¬ stayB f = true := by unfold stayB; simp [ha, hb]
                have hlen2 : (boxesOf u L pn (j + 1)).length = K + i := by
                  rw [boxesOf_succ, List.length_append, ← HK.out, ← HFF.out]; unfold legBoxes; rw [if_neg hstay, ← HII.out]; simp
                have hcel2 : boxC (boxesOf u L pn (j + 1)) = C ++ boxC ((List.range i).map (pieceBox u f pn)) := by
                  rw [boxesOf_succ, boxC_app, ← HCC.out, ← HFF.out]; unfold legBoxes; rw [if_neg hstay, ← HII.out]; simp
                clear hstay
                have HLEN2 := Lib.hid hlen2
                have HCEL2 := Lib.hid hcel2
                clear hcel2 hlen2
                go_wp2_with fail
                have hwr : wrap64 ((j : Int) + 1) = (j : Int) + 1 := IntWalk.wrap64_in _ (by have := HN.out; omega)
                refine ⟨⟨j + 1, ow, by rw [hwr]; simp, hjl, ?_, fun b hb => (HOQ.out b hb).1, HXQ.out⟩, by rw [hwr]; exact meas_next hjl⟩
                rw [HLEN2.out, HCEL2.out]; exact HSQ.out
          · skip
            have g2 : wr.cell? ⟨b10, 2, none⟩ = some (.int .i64 f.tx) := HBQ.out.cell 2
            have g3 : wr.cell? ⟨b10, 3, none⟩ = some (.int .i64 f.ty) := HBQ.out.cell 3
            have g4 : wr.cell? ⟨b10, 4, none⟩ = some (.int .i64 f.start) := HBQ.out.cell 4
            have g5 : wr.cell? ⟨b10, 5, none⟩ = some (.int .i64 f.arrive) := HBQ.out.cell 5
            have g6 : wr.cell? ⟨b10, 6, none⟩ = some (.int .i64 f.leave) := HBQ.out.cell 6
            have hlo6 := loadVarB HXQ.out.1 (P := Tryd.prog) Tryd.underlying25 rfl HSI.out
            have hi20 : i ≤ 20 := by
              have := HII.out; unfold pieceN at this; split at this <;> omega
            have HLO6 := Lib.hid hlo6
            have HI20 := Lib.hid hi20
            clear hi20 hlo6
            by_cases ha : f.arrive < f.leave
            · skip
              skip
              have hstay : stayB f = true := by unfold stayB; simp [ha]
              have hlen2 : (boxesOf u L pn (j + 1)).length = K + i + 1 := by
                rw [boxesOf_succ, List.length_append, ← HK.out, ← HFF.out]; unfold legBoxes; rw [if_pos hstay, ← HII.out]; simp; omega
              have hcel2 : boxC (boxesOf u L pn (j + 1)) = (C ++ boxC ((List.range i).map (pieceBox u f pn))) ++ (stayBox u f).cells := by
                rw [boxesOf_succ, boxC_app, ← HCC.out, ← HFF.out]; unfold legBoxes; rw [if_pos hstay, ← HII.out, boxC_app]; simp [boxC]
              clear hstay
              obtain ⟨i0, hi0, hz0', hz1, hz2⟩ := info_parts3 info87x
              have pt := place_in HLK.out.to_
              have HI0 := Lib.hid hi0
              have HZ0 := Lib.hid hz0'
              have HZ1 := Lib.hid hz1
              have HZ2 := Lib.hid hz2
              have HLEN2 := Lib.hid hlen2
              have HCEL2 := Lib.hid hcel2
              have PTT := Lib.hid pt
              clear pt hcel2 hlen2 hz2 hz1 hz0' hi0
              go_wp2_with (with_reducible refine atLoad 25 rfl ?_; refine wpList_loadE rfl rfl rfl HLO6.out ?_)
              refine (around_any u _ _ _ _ _ _ wr HMG.out (by have := PTT.out; omega) (by have := PTT.out; omega) (by have := PTT.out; omega) (by have := PTT.out; omega)).mono ?_; rintro e w7 ⟨rfl, hf7⟩
              obtain ⟨bb, hbb⟩ : ∃ bb, bb = stayBox u f := ⟨_, rfl⟩
              rw [show aroundB u f.tx f.ty f.tx f.ty f.arrive f.leave = bb from hbb.symm]
              have x7 := boxNext HXQ.out hf7
              have s7 := HSQ.out.frm hf7 HSQ.out.lt (by simp)
              clear HXQ HSQ HBQ hf7 HLO6 g2 g3 g4 g5 g6
              have HXQ := Lib.hid x7
              have HSQ := Lib.hid s7
              have HBB := Lib.hid hbb
              clear hbb s7 x7
              simp only [BC.cells]
              go_wp2_with (at_builtin; refine wpList_append_sl _ rfl (.tmp 120) (.tmp 131) 57 rfl 87 i0 _ 7 56 Tryd.underlying57 HI0.out HZ0.out HZ1.out HZ2.out rfl _ (K + i) _ ow rfl (HSQ.out.alloc _) ⟨w7.heap.size, 0, none⟩ 1 1 bb.cells rfl rfl (news_alloc _ bb.cells _) (by simp [BC.cells, Value.oneCell']) (by have := HKN.out; have := HI20.out; unfold maxLen; omega) (by have := HKN.out; have := HI20.out; omega) ?_; intro v1 w8 own1 hs1 hf1 ho1; obtain ⟨ad1, cp1, rfl⟩ := hs1.form; have HS1 := Lib.hid hs1; have HF1 := Lib.hid hf1; have HO1 := Lib.hid ho1; clear hs1 hf1 ho1)
              have hwr : wrap64 ((j : Int) + 1) = (j : Int) + 1 := IntWalk.wrap64_in _ (by have := HN.out; omega)
              have hcl := HXQ.out.1.lt
              have hno : ∀ b, own1 = some b → c + 1 ≤ b := fun b hb => by
                rcases HO1.out with h | ⟨g, h, hg⟩
                · exact (HOQ.out b (by rw [← h]; exact hb)).1
                · rw [hb] at h; cases h; simp at hg; omega
              refine ⟨⟨j + 1, own1, by rw [hwr]; simp, hjl, ?_, hno, ?_, ?_⟩, by rw [hwr]; exact meas_next hjl⟩
              · rw [HLEN2.out, HCEL2.out, ← HBB.out]; exact HS1.out
              · exact HF1.out.blk (HXQ.out.1.alloc _) (by simp; omega) (fun hm => by have := (HOQ.out c (by simpa using hm)).1; omega)
              · exact (HXQ.out.2.alloc HXQ.out.2.size _).call HF1.out (by have := HXQ.out.2.size; simp; omega) (fun x hx hm => by have := (HOQ.out x (by simpa using hm)).1; have := HCW.out; omega)
            · by_cases hb : f.start = f.leave
              · skip
                skip
                have hstay : stayB f = true := by unfold stayB; simp [hb]
                have hlen2 : (boxesOf u L pn (j + 1)).length = K + i + 1 := by
                  rw [boxesOf_succ, List.length_append, ← HK.out, ← HFF.out]; unfold legBoxes; rw [if_pos hstay, ← HII.out]; simp; omega
                have hcel2 : boxC (boxesOf u L pn (j + 1)) = (C ++ boxC ((List.range i).map (pieceBox u f pn))) ++ (stayBox u f).cells := by
                  rw [boxesOf_succ, boxC_app, ← HCC.out, ← HFF.out]; unfold legBoxes; rw [if_pos hstay, ← HII.out, boxC_app]; simp [boxC]
                clear hstay
                obtain ⟨i0, hi0, hz0', hz1, hz2⟩ := info_parts3 info87x
                have pt := place_in HLK.out.to_
                have HI0 := Lib.hid hi0
                have HZ0 := Lib.hid hz0'
                have HZ1 := Lib.hid hz1
                have HZ2 := Lib.hid hz2
                have HLEN2 := Lib.hid hlen2
                have HCEL2 := Lib.hid hcel2
                have PTT := Lib.hid pt
                clear pt hcel2 hlen2 hz2 hz1 hz0' hi0
                go_wp2_with (with_reducible refine atLoad 25 rfl ?_; refine wpList_loadE rfl rfl rfl HLO6.out ?_)
                refine (around_any u _ _ _ _ _ _ wr HMG.out (by have := PTT.out; omega) (by have := PTT.out; omega) (by have := PTT.out; omega) (by have := PTT.out; omega)).mono ?_; rintro e w7 ⟨rfl, hf7⟩
                obtain ⟨bb, hbb⟩ : ∃ bb, bb = stayBox u f := ⟨_, rfl⟩
                rw [show aroundB u f.tx f.ty f.tx f.ty f.arrive f.leave = bb from hbb.symm]
                have x7 := boxNext HXQ.out hf7
                have s7 := HSQ.out.frm hf7 HSQ.out.lt (by simp)
                clear HXQ HSQ HBQ hf7 HLO6 g2 g3 g4 g5 g6
                have HXQ := Lib.hid x7
                have HSQ := Lib.hid s7
                have HBB := Lib.hid hbb
                clear hbb s7 x7
                simp only [BC.cells]
                go_wp2_with (at_builtin; refine wpList_append_sl _ rfl (.tmp 120) (.tmp 131) 57 rfl 87 i0 _ 7 56 Tryd.underlying57 HI0.out HZ0.out HZ1.out HZ2.out rfl _ (K + i) _ ow rfl (HSQ.out.alloc _) ⟨w7.heap.size, 0, none⟩ 1 1 bb.cells rfl rfl (news_alloc _ bb.cells _) (by simp [BC.cells, Value.oneCell']) (by have := HKN.out; have := HI20.out; unfold maxLen; omega) (by have := HKN.out; have := HI20.out; omega) ?_; intro v1 w8 own1 hs1 hf1 ho1; obtain ⟨ad1, cp1, rfl⟩ := hs1.form; have HS1 := Lib.hid hs1; have HF1 := Lib.hid hf1; have HO1 := Lib.hid ho1; clear hs1 hf1 ho1)
                have hwr : wrap64 ((j : Int) + 1) = (j : Int) + 1 := IntWalk.wrap64_in _ (by have := HN.out; omega)
                have hcl := HXQ.out.1.lt
                have hno : ∀ b, own1 = some b → c + 1 ≤ b := fun b hb => by
                  rcases HO1.out with h | ⟨g, h, hg⟩
                  · exact (HOQ.out b (by rw [← h]; exact hb)).1
                  · rw [hb] at h; cases h; simp at hg; omega
                refine ⟨⟨j + 1, own1, by rw [hwr]; simp, hjl, ?_, hno, ?_, ?_⟩, by rw [hwr]; exact meas_next hjl⟩
                · rw [HLEN2.out, HCEL2.out, ← HBB.out]; exact HS1.out
                · exact HF1.out.blk (HXQ.out.1.alloc _) (by simp; omega) (fun hm => by have := (HOQ.out c (by simpa using hm)).1; omega)
                · exact (HXQ.out.2.alloc HXQ.out.2.size _).call HF1.out (by have := HXQ.out.2.size; simp; omega) (fun x hx hm => by have := (HOQ.out x (by simpa using hm)).1; have := HCW.out; omega)
              · skip
                have hstay : ¬ stayB f = true := by unfold stayB; simp [ha, hb]
                have hlen2 : (boxesOf u L pn (j + 1)).length = K + i := by
                  rw [boxesOf_succ, List.length_append, ← HK.out, ← HFF.out]; unfold legBoxes; rw [if_neg hstay, ← HII.out]; simp
                have hcel2 : boxC (boxesOf u L pn (j + 1)) = C ++ boxC ((List.range i).map (pieceBox u f pn)) := by
                  rw [boxesOf_succ, boxC_app, ← HCC.out, ← HFF.out]; unfold legBoxes; rw [if_neg hstay, ← HII.out]; simp
                clear hstay
                have HLEN2 := Lib.hid hlen2
                have HCEL2 := Lib.hid hcel2
                clear hcel2 hlen2
                go_wp2_with fail
                have hwr : wrap64 ((j : Int) + 1) = (j : Int) + 1 := IntWalk.wrap64_in _ (by have := HN.out; omega)
                refine ⟨⟨j + 1, ow, by rw [hwr]; simp, hjl, ?_, fun b hb => (HOQ.out b hb).1, HXQ.out⟩, by rw [hwr]; exact meas_next hjl⟩
                rw [HLEN2.out, HCEL2.out]; exact HSQ.out
    · have hjl' : ¬ (j : Int) < (n : Int) := by omega
      obtain rfl : j = n := by omega
      have HSL := Lib.hid hsl
      have HOWN := Lib.hid hown
      have HX := Lib.hid hxr
      clear hxr hown hsl
      go_wp2_with fail
      refine bodyPost_ret (v := .tuple #[.slice oa (boxesOf u L pn j).length ocap, .int .i64 0]) (by simp [results, Tryd.results33, go_sem]) rfl ?_
      refine ⟨HX.out.2, .inr (.inr ⟨by simp [HU.out, HL.out], HPP.out, ?_⟩)⟩
      refine ⟨.slice oa (boxesOf u L pn j).length ocap, ?_⟩
      have hfin : Sl wr 87 7 (.slice oa (boxesOf u L pn j).length ocap) (boxesOf u L (pn : Int).toNat j).length (boxC (boxesOf u L (pn : Int).toNat j)) own ∧ ∀ b, own = some b → w.heap.size ≤ b := ⟨by rw [Int.toNat_natCast]; exact HSL.out, fun b hb => by have := HOWN.out b hb; have := HCW.out; omega⟩
      first | exact ⟨own, rfl, hfin⟩ | exact ⟨rfl, own, hfin⟩
end Go.Proofs.YtghkfopcjdkieaaDoor
