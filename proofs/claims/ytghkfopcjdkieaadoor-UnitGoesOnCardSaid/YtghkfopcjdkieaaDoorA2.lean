/-
  A unit plans anew.
-/
import Derived.Test.YtghkfopcjdkieaaDoorA1
namespace Go.Proofs.YtghkfopcjdkieaaDoor
open Go.RowKit

set_option maxRecDepth 100000 in
set_option maxHeartbeats 8000000 in
theorem again_any (u : UC) (s : ByteArray) (hnm : u.name = .string s) (ad : Option Addr) (b off n cap : Nat) (L : Nat → LC) (t : Int) (ra : Option Addr) (rb roff rn rcap : Nat) (R : Nat → WC) (sa : Option Addr) (sb soff m scap : Nat) (S : Nat → FC) (w : World)
    (hr : Rw w 8 ad b off n fun i => (L i).cells) (hrr : Rw w 3 ra rb roff rn fun i => (R i).cells) (hrs : Rw w 8 sa sb soff m fun i => (S i).cells) (hgl : Glob w) :
    Calls Tryd.prog 39 #[.agg u.cells.toArray, .slice ad n cap, .int .i64 t, .slice ra rn rcap, .slice sa m scap] w fun e w' => AgainIs u (againG u (L ((atI n L t).getD 0)) t) rn R (againO u s n L t m S rn R) w w' e := by
  have hf0 := Tryd.func39
  obtain ⟨o, ho⟩ : ∃ o, o = againO u s n L t m S rn R := ⟨_, rfl⟩
  obtain ⟨gg, hgg⟩ : ∃ gg, gg = againG u (L ((atI n L t).getD 0)) t := ⟨_, rfl⟩
  rw [← ho, ← hgg]
  have HO := Lib.hid ho
  have HGG := Lib.hid hgg
  clear hgg ho
  have HR := Lib.hid hr
  have HRR := Lib.hid hrr
  have HRS := Lib.hid hrs
  have HNM := Lib.hid hnm
  have HGL := Lib.hid hgl
  clear hgl hnm hrs hrr hr
  go_enter Tryd.func39, Tryd.ntmps39
  go_upto_region 1 with fail
  refine namedC ?_; intro W hW
  have hb : Blk W w.heap.size 25 u.cells := by rw [hW]; exact Blk.new w 25 u.cells
  have hf : Frm w.heap.size [] w W := by rw [hW]; repeat (first | with_reducible exact Frm.refl _ _ _ | with_reducible refine Frm.drewN ?_ | with_reducible refine Frm.drew ?_ | ((with_reducible refine Frm.setCell' ?_ ?_); · first | (left; simp; done) | (right; simp; done) | (right; simp; omega)) | ((with_reducible refine Frm.alloc' ?_ ?_); · first | exact Nat.le_refl _ | (simp; done) | (simp; omega)))
  clear hW hf0
  have HX := Lib.hid (And.intro hb hf)
  clear hb hf
  have hsi := UC.info u
  have HSI := Lib.hid hsi
  clear hsi
  cases hc0 : unitB u s
  · have ho : o = some (-1, 0, 2) := by rw [HO.out]; unfold againO; simp [hc0]
    have HOX := Lib.hid ho
    have HC0 := Lib.hid hc0
    clear hc0 ho
    go_wp2_with (first | (with_reducible refine atLoad 25 rfl ?_; refine wpList_loadB (ty := 25) rfl rfl HX.out.1 rfl Tryd.underlying25 rfl HSI.out ?_) | (go_at_call 19; refine (checkUnit_any u s HNM.out _).mono ?_; rintro e w1 ⟨rfl, hf1⟩; simp only [HC0.out]; replace HX := Lib.hid (boxNext HX.out hf1); clear hf1))
    refine bodyPost_ret (v := .tuple #[.slice none 0 0, .int .i64 (-1), .int .i64 0, .int .i64 2]) (by simp [results, Tryd.results39, go_sem]) rfl ?_
    exact ⟨HX.out.2, by have h := HOX.out; subst h; rfl⟩
  have HC0 := Lib.hid hc0
  clear hc0
  cases hc1 : legsB n L
  · have ho : o = some (-1, 0, 2) := by rw [HO.out]; unfold againO; simp [HC0.out, hc1]
    have HOX := Lib.hid ho
    have HC1 := Lib.hid hc1
    clear hc1 ho
    go_wp2_with (first | (with_reducible refine atLoad 25 rfl ?_; refine wpList_loadB (ty := 25) rfl rfl HX.out.1 rfl Tryd.underlying25 rfl HSI.out ?_) | (go_at_call 19; refine (checkUnit_any u s HNM.out _).mono ?_; rintro e w1 ⟨rfl, hf1⟩; simp only [HC0.out, HC1.out]; replace HX := Lib.hid (boxNext HX.out hf1); clear hf1) | (go_at_call 64; refine (valid_any ad b off n cap L _ (HR.out.frm HX.out.2 (Nat.le_refl _))).mono ?_; rintro e w1 ⟨rfl, hf1⟩; simp only [HC0.out, HC1.out]; replace HX := Lib.hid (boxNext HX.out hf1); clear hf1))
    refine bodyPost_ret (v := .tuple #[.slice none 0 0, .int .i64 (-1), .int .i64 0, .int .i64 2]) (by simp [results, Tryd.results39, go_sem]) rfl ?_
    exact ⟨HX.out.2, by have h := HOX.out; subst h; rfl⟩
  have HC1 := Lib.hid hc1
  clear hc1
  cases hc2 : weatherB m S
  · have ho : o = some (-1, 0, 2) := by rw [HO.out]; unfold againO; simp [HC0.out, HC1.out, hc2]
    have HOX := Lib.hid ho
    have HC2 := Lib.hid hc2
    clear hc2 ho
    go_wp2_with (first | (with_reducible refine atLoad 25 rfl ?_; refine wpList_loadB (ty := 25) rfl rfl HX.out.1 rfl Tryd.underlying25 rfl HSI.out ?_) | (go_at_call 19; refine (checkUnit_any u s HNM.out _).mono ?_; rintro e w1 ⟨rfl, hf1⟩; simp only [HC0.out, HC1.out, HC2.out]; replace HX := Lib.hid (boxNext HX.out hf1); clear hf1) | (go_at_call 64; refine (valid_any ad b off n cap L _ (HR.out.frm HX.out.2 (Nat.le_refl _))).mono ?_; rintro e w1 ⟨rfl, hf1⟩; simp only [HC0.out, HC1.out, HC2.out]; replace HX := Lib.hid (boxNext HX.out hf1); clear hf1) | (go_at_call 21; refine (weather_any sa sb soff m scap S _ (HRS.out.frm HX.out.2 (Nat.le_refl _))).mono ?_; rintro e w1 ⟨rfl, hf1⟩; simp only [HC0.out, HC1.out, HC2.out]; replace HX := Lib.hid (boxNext HX.out hf1); clear hf1))
    refine bodyPost_ret (v := .tuple #[.slice none 0 0, .int .i64 (-1), .int .i64 0, .int .i64 2]) (by simp [results, Tryd.results39, go_sem]) rfl ?_
    exact ⟨HX.out.2, by have h := HOX.out; subst h; rfl⟩
  have HC2 := Lib.hid hc2
  clear hc2
  cases hc3 : routeB rn R
  · have ho : o = some (-1, 0, 2) := by rw [HO.out]; unfold againO; simp [HC0.out, HC1.out, HC2.out, hc3]
    have HOX := Lib.hid ho
    have HC3 := Lib.hid hc3
    clear hc3 ho
    go_wp2_with (first | (with_reducible refine atLoad 25 rfl ?_; refine wpList_loadB (ty := 25) rfl rfl HX.out.1 rfl Tryd.underlying25 rfl HSI.out ?_) | (go_at_call 19; refine (checkUnit_any u s HNM.out _).mono ?_; rintro e w1 ⟨rfl, hf1⟩; simp only [HC0.out, HC1.out, HC2.out, HC3.out]; replace HX := Lib.hid (boxNext HX.out hf1); clear hf1) | (go_at_call 64; refine (valid_any ad b off n cap L _ (HR.out.frm HX.out.2 (Nat.le_refl _))).mono ?_; rintro e w1 ⟨rfl, hf1⟩; simp only [HC0.out, HC1.out, HC2.out, HC3.out]; replace HX := Lib.hid (boxNext HX.out hf1); clear hf1) | (go_at_call 21; refine (weather_any sa sb soff m scap S _ (HRS.out.frm HX.out.2 (Nat.le_refl _))).mono ?_; rintro e w1 ⟨rfl, hf1⟩; simp only [HC0.out, HC1.out, HC2.out, HC3.out]; replace HX := Lib.hid (boxNext HX.out hf1); clear hf1) | (go_at_call 60; refine (routed_any ra rb roff rn rcap R _ (HRR.out.frm HX.out.2 (Nat.le_refl _))).mono ?_; rintro e w1 ⟨rfl, hf1⟩; simp only [HC0.out, HC1.out, HC2.out, HC3.out]; replace HX := Lib.hid (boxNext HX.out hf1); clear hf1))
    refine bodyPost_ret (v := .tuple #[.slice none 0 0, .int .i64 (-1), .int .i64 0, .int .i64 2]) (by simp [results, Tryd.results39, go_sem]) rfl ?_
    exact ⟨HX.out.2, by have h := HOX.out; subst h; rfl⟩
  have HC3 := Lib.hid hc3
  clear hc3
  have hu : UOK u := uok_of HC0.out
  have HU := Lib.hid hu
  clear hu
  go_upto_region 3 with (first | (with_reducible refine atLoad 25 rfl ?_; refine wpList_loadB (ty := 25) rfl rfl HX.out.1 rfl Tryd.underlying25 rfl HSI.out ?_) | (go_at_call 19; refine (checkUnit_any u s HNM.out _).mono ?_; rintro e w1 ⟨rfl, hf1⟩; simp only [HC0.out, HC1.out, HC2.out, HC3.out]; replace HX := Lib.hid (boxNext HX.out hf1); clear hf1) | (go_at_call 64; refine (valid_any ad b off n cap L _ (HR.out.frm HX.out.2 (Nat.le_refl _))).mono ?_; rintro e w1 ⟨rfl, hf1⟩; simp only [HC0.out, HC1.out, HC2.out, HC3.out]; replace HX := Lib.hid (boxNext HX.out hf1); clear hf1) | (go_at_call 21; refine (weather_any sa sb soff m scap S _ (HRS.out.frm HX.out.2 (Nat.le_refl _))).mono ?_; rintro e w1 ⟨rfl, hf1⟩; simp only [HC0.out, HC1.out, HC2.out, HC3.out]; replace HX := Lib.hid (boxNext HX.out hf1); clear hf1) | (go_at_call 60; refine (routed_any ra rb roff rn rcap R _ (HRR.out.frm HX.out.2 (Nat.le_refl _))).mono ?_; rintro e w1 ⟨rfl, hf1⟩; simp only [HC0.out, HC1.out, HC2.out, HC3.out]; replace HX := Lib.hid (boxNext HX.out hf1); clear hf1))
  go_wp2_with fail
  refine (at_any ad b off n cap L t _ (HR.out.frm HX.out.2 (Nat.le_refl _))).mono ?_; rintro e w2 ⟨rfl, hf2⟩
  replace HX := Lib.hid (boxNext HX.out hf2)
  clear hf2
  obtain ⟨q, hq⟩ : ∃ q, q = atL n L t := ⟨_, rfl⟩
  rw [← hq]
  have HQ := Lib.hid hq
  clear hq
  cases hat : atI n L t with
  | none =>
    have ho : o = some (-1, 0, 7) := by rw [HO.out]; unfold againO; rw [HC0.out, HC1.out, HC2.out, HC3.out, hat]; rfl
    have HOX := Lib.hid ho
    have HAT := Lib.hid hat
    clear hat ho
    go_wp2_with (with_reducible refine atStore 49 rfl ?_; refine stop_ ?_)
    refine go_on ?_
    refine wpList_storeNew (P := Tryd.prog) (cs := q.cells) rfl rfl rfl rfl rfl info49 (by simp [LC.cells, Value.oneCell']) ?_
    intro w3 hf3 hb3 hz3
    replace HX := Lib.hid (boxNext HX.out hf3)
    clear hf3 hb3 hz3
    go_wp2_with fail
    refine bodyPost_ret (v := .tuple #[.slice none 0 0, .int .i64 (-1), .int .i64 0, .int .i64 7]) (by simp [results, Tryd.results39, go_sem]) rfl ?_
    exact ⟨HX.out.2, by have h := HOX.out; subst h; rfl⟩
  | some i =>
    have hin := atI_some hat
    obtain ⟨f, hlg⟩ : ∃ f, f = L i := ⟨_, rfl⟩
    have hlk : LegOK f := by rw [hlg]; exact legs_ok HC1.out hin.1
    have hst : f.start ≤ t ∧ t ≤ f.leave := by rw [hlg]; exact hin.2
    have hn0 : 0 < n := by omega
    have hn0' : (0 : Int) < (n : Int) := by omega
    have hl0 := (legs_ok HC1.out hn0).start
    obtain ⟨since, hsince⟩ : ∃ x, x = (L 0).start := ⟨_, rfl⟩
    obtain ⟨g, hg⟩ : ∃ g, g = againG u f t := ⟨_, rfl⟩
    have hgok : GOK g := by rw [hg]; exact again_gok HU.out hlk hst.1 hst.2
    have hgx : gg = g := by rw [HGG.out, hat, hg, hlg]; rfl
    obtain ⟨lx, hlx⟩ : ∃ lx, lx = (lowZ f t).1 := ⟨_, rfl⟩
    obtain ⟨ly, hly⟩ : ∃ ly, ly = (lowZ f t).2 := ⟨_, rfl⟩
    obtain ⟨hx, hhx⟩ : ∃ hx, hx = (highZ f t).1 := ⟨_, rfl⟩
    obtain ⟨hy, hhy⟩ : ∃ hy, hy = (highZ f t).2 := ⟨_, rfl⟩
    have had := HR.out.ad hn0
    subst had
    rw [← hsince] at hl0
    have hoi : o = if 30 < rn then some (-1, 0, 3) else goO u m S since g rn R := by rw [HO.out]; unfold againO; rw [HC0.out, HC1.out, HC2.out, HC3.out, hat, hsince, hg, hlg]; rfl
    have HOI := Lib.hid hoi
    have HGX := Lib.hid hgx
    clear hgx hoi
    have hqf : q = f := by rw [HQ.out, hlg]; unfold atL; rw [hat]
    subst hqf
    obtain ⟨fu, hfu⟩ : ∃ fu, fu = leftF q u.burn t := ⟨_, rfl⟩
    have hge : g = ⟨lx, ly, t, fu⟩ := by rw [hg, hlx, hly, hfu]; rfl
    have HAT := Lib.hid hat
    have HLG := Lib.hid hlg
    have HLK := Lib.hid hlk
    have HST := Lib.hid hst
    have HL0 := Lib.hid hl0
    have HSINCE := Lib.hid hsince
    have HG := Lib.hid hg
    have HGOK := Lib.hid hgok
    have HLX := Lib.hid hlx
    have HLY := Lib.hid hly
    have HHX := Lib.hid hhx
    have HHY := Lib.hid hhy
    have HFU := Lib.hid hfu
    have HGE := Lib.hid hge
    clear hge hfu hhy hhx hly hlx hgok hg hsince hl0 hst hlk hlg hat
    go_wp2_with (with_reducible refine atStore 49 rfl ?_; refine stop_ ?_)
    refine go_on ?_
    obtain ⟨p14, hp14⟩ : ∃ p, p = w2.heap.size := ⟨_, rfl⟩
    refine wpList_storeNew (P := Tryd.prog) (cs := q.cells) rfl rfl rfl rfl rfl info49 (by simp [LC.cells, Value.oneCell']) ?_
    intro w3 hf3 b14 hz3
    rw [← hp14] at b14 ⊢
    replace HX := Lib.hid (boxNext HX.out hf3)
    clear hf3 hz3 hp14
    by_cases h30 : 30 < rn
    · have h30' : (30 : Int) < (rn : Int) := by omega
      have ho : o = some (-1, 0, 3) := by rw [HOI.out, if_pos h30]
      have HOX := Lib.hid ho
      clear ho
      go_wp2_with fail
      refine bodyPost_ret (v := .tuple #[.slice none 0 0, .int .i64 (-1), .int .i64 0, .int .i64 3]) (by simp [results, Tryd.results39, go_sem]) rfl ?_
      exact ⟨HX.out.2, by have h := HOX.out; subst h; rfl⟩
    have h30' : ¬ (30 : Int) < (rn : Int) := by omega
    have hoi2 : o = goO u m S since g rn R := by rw [HOI.out, if_neg h30]
    have HOI2 := Lib.hid hoi2
    clear hoi2
    have hlo := loadVarB b14 (P := Tryd.prog) Tryd.underlying49 rfl info49
    have HLO := Lib.hid hlo
    have B14 := Lib.hid b14
    clear b14 hlo
    go_wp2_with (with_reducible refine atLoad 49 rfl ?_; refine wpList_loadE rfl rfl rfl HLO.out ?_)
    refine (place_any q t w3 HLK.out HST.out.1).mono ?_; rintro e w4 ⟨rfl, hf4⟩
    rw [← HLX.out, ← HLY.out, ← HHX.out, ← HHY.out]
    replace HX := Lib.hid (boxNext HX.out hf4)
    replace B14 := Lib.hid (hf4.blk B14.out B14.out.lt (by simp))
    clear hf4 HLO
    go_wp2_with (with_reducible refine atStore 23 rfl ?_; refine stop_ ?_)
    refine go_on ?_
    obtain ⟨p, hp⟩ : ∃ p, p = w4.heap.size := ⟨_, rfl⟩
    refine wpList_storeNew2 (zs := [.int .i64 0, .int .i64 0]) (cs := [.int .i64 lx, .int .i64 ly]) (ds := [.int .i64 hx, .int .i64 hy]) rfl rfl rfl rfl rfl rfl rfl rfl rfl rfl rfl rfl (by kernel_rfl) (by simp [Value.oneCell']) (by simp [Value.oneCell']) ?_
    intro w5 hf5 b16 b17
    rw [← hp] at b16 ⊢
    replace HX := Lib.hid (boxNext HX.out hf5)
    replace B14 := Lib.hid (hf5.blk B14.out B14.out.lt (by simp))
    clear hf5 hp b17
    have hU : u.cells = [.string s, .int .i64 u.speed, .int .i64 u.fuel, .int .i64 u.burn, .int .i64 u.reserve, .int .i64 u.hours, .int .i64 u.sea, .int .i64 u.wind, .int .i64 u.bx, .int .i64 u.by_, .int .i64 u.margin, .int .i64 u.level] := by unfold UC.cells; rw [HNM.out]
    have hrw := HR.out.frm HX.out.2 (Nat.le_refl _)
    have hlu : ∀ V, Frm w5.heap.size [] w5 V → (loadVar 25 ⟨w.heap.size, 0, none⟩).run Tryd.prog V = .ok (.agg #[.string s, .int .i64 u.speed, .int .i64 u.fuel, .int .i64 u.burn, .int .i64 u.reserve, .int .i64 u.hours, .int .i64 u.sea, .int .i64 u.wind, .int .i64 u.bx, .int .i64 u.by_, .int .i64 u.margin, .int .i64 u.level]) V := fun V hV => by
      have := loadVarB (hV.blk HX.out.1 HX.out.1.lt (by simp)) (P := Tryd.prog) Tryd.underlying25 rfl HSI.out
      rw [hU] at this
      exact this
    have hfx : ∀ V, Frm w5.heap.size [] w5 V → V.cell? ⟨p, 0, none⟩ = some (.int .i64 lx) ∧ V.cell? ⟨p, 1, none⟩ = some (.int .i64 ly) ∧ V.cell? ⟨b, off + 4, none⟩ = some (.int .i64 since) ∧ V.cell? ⟨p14, 7, none⟩ = some (.int .i64 q.fuel) ∧ V.cell? ⟨w.heap.size, 3, none⟩ = some (.int .i64 u.burn) ∧ V.cell? ⟨p14, 6, none⟩ = some (.int .i64 q.leave) := fun V hV => by
      have h16 := hV.blk b16 b16.lt (by simp)
      have h14 := hV.blk B14.out B14.out.lt (by simp)
      have hu' := hV.blk HX.out.1 HX.out.1.lt (by simp)
      have h0 := (hrw.frm hV (Nat.le_refl _)).at_ 0 hn0 4 _ rfl
      exact ⟨h16.cell 0, h16.cell 1, by rw [HSINCE.out]; simpa using h0, h14.cell 7, hu'.cell 3, h14.cell 6⟩
    have i1 := HLK.out.start
    have i2 := HLK.out.arrive
    have i3 := HLK.out.leave
    have i4 := HLK.out.fuel
    have i5 := HU.out.burn
    have i6 := HST.out
    obtain ⟨d, hd⟩ : ∃ d, d = q.leave - t := ⟨_, rfl⟩
    obtain ⟨mm, hm⟩ : ∃ mm, mm = u.burn * d := ⟨_, rfl⟩
    have hm0 : 0 ≤ mm := by rw [hm]; exact Int.mul_nonneg i5.1 (by omega)
    have hm1 : mm ≤ 1048576 * 1073741824 := by rw [hm]; exact Int.mul_le_mul i5.2 (by omega) (by omega) (by omega)
    have ww1 : IntKind.i64.wrap (q.leave - t) = d := by rw [hd]; exact IntWalk.i64_in _ (by omega)
    have ww2 : IntKind.i64.wrap (u.burn * d) = mm := by rw [← hm]; exact IntWalk.i64_in _ (by omega)
    have hq2 : fu = q.fuel + mm / 3600 := by rw [HFU.out]; unfold leftF; rw [hm, hd]
    have ww3 : IntKind.i64.wrap (mm.tdiv 3600) = mm / 3600 := by rw [Int.tdiv_eq_ediv_of_nonneg hm0]; exact IntWalk.i64_in _ (by omega)
    have ww5 : IntKind.i64.wrap (mm / 3600) = mm / 3600 := IntWalk.i64_in _ (by omega)
    have ww4 : IntKind.i64.wrap (q.fuel + mm / 3600) = fu := by rw [hq2]; exact IntWalk.i64_in _ (by omega)
    clear hd hm hm1 hq2 i1 i2 i3 i4 i5 i6
    have HUU := Lib.hid hU
    have HRW := Lib.hid hrw
    have HLU := Lib.hid hlu
    have HFX := Lib.hid hfx
    have B16 := Lib.hid b16
    have HM0 := Lib.hid hm0
    clear hm0 b16 hfx hlu hrw hU
    go_upto_region 9 with fail
    refine wp_region_leftL (fun V => Frm w5.heap.size [] w5 V) 1000 (by kernel_rfl) ?_
    have hS : Frm w5.heap.size [] w5 w5.drew := (Frm.refl _ _ w5).drew
    have HS := Lib.hid hS
    clear hS
    refine LeftL.take 0 rfl (by kernel_rfl) (fun _ _ d _ _ h => by cases d <;> exact h) (yields_loadE (ty := 25) rfl rfl rfl (HLU.out)) HS.out ?_; (intro K' hK'; go_simp; refine hK' _ ?_; clear hK' K')
    refine LeftL.run (v := ?_) 1 rfl (by kernel_rfl) rfl (fun _ _ d _ _ h => by cases d <;> exact h) ?_ HS.out ?_; rotate_left; (· intro V hV; obtain ⟨q0, q1, q2, q3, q4, q5⟩ := HFX.out V hV; clear hV; go_simp; rfl); (intro K' hK'; go_simp; refine hK' _ ?_; clear hK' K')
    refine LeftL.run (v := ?_) 2 rfl (by kernel_rfl) rfl (fun _ _ d _ _ h => by cases d <;> exact h) ?_ HS.out ?_; rotate_left; (· intro V hV; obtain ⟨q0, q1, q2, q3, q4, q5⟩ := HFX.out V hV; clear hV; go_simp; rfl); (intro K' hK'; go_simp; refine hK' _ ?_; clear hK' K')
    refine LeftL.run (v := ?_) 3 rfl (by kernel_rfl) rfl (fun _ _ d _ _ h => by cases d <;> exact h) ?_ HS.out ?_; rotate_left; (· intro V hV; obtain ⟨q0, q1, q2, q3, q4, q5⟩ := HFX.out V hV; clear hV; go_simp; rfl); (intro K' hK'; go_simp; refine hK' _ ?_; clear hK' K')
    refine LeftL.run (v := ?_) 4 rfl (by kernel_rfl) rfl (fun _ _ d _ _ h => by cases d <;> exact h) ?_ HS.out ?_; rotate_left; (· intro V hV; obtain ⟨q0, q1, q2, q3, q4, q5⟩ := HFX.out V hV; clear hV; go_simp; rfl); (intro K' hK'; go_simp; refine hK' _ ?_; clear hK' K')
    refine LeftL.run (v := ?_) 5 rfl (by kernel_rfl) rfl (fun _ _ d _ _ h => by cases d <;> exact h) ?_ HS.out ?_; rotate_left; (· intro V hV; obtain ⟨q0, q1, q2, q3, q4, q5⟩ := HFX.out V hV; clear hV; go_simp; rfl); (intro K' hK'; go_simp; refine hK' _ ?_; clear hK' K')
    refine LeftL.run (v := ?_) 6 rfl (by kernel_rfl) rfl (fun _ _ d _ _ h => by cases d <;> exact h) ?_ HS.out ?_; rotate_left; (· intro V hV; obtain ⟨q0, q1, q2, q3, q4, q5⟩ := HFX.out V hV; clear hV; go_simp; rfl); (intro K' hK'; go_simp; refine hK' _ ?_; clear hK' K')
    refine LeftL.run (v := ?_) 7 rfl (by kernel_rfl) rfl (fun _ _ d _ _ h => by cases d <;> exact h) ?_ HS.out ?_; rotate_left; (· intro V hV; obtain ⟨q0, q1, q2, q3, q4, q5⟩ := HFX.out V hV; clear hV; go_simp; rfl); (intro K' hK'; go_simp; refine hK' _ ?_; clear hK' K')
    refine LeftL.run (v := ?_) 8 rfl (by kernel_rfl) rfl (fun _ _ d _ _ h => by cases d <;> exact h) ?_ HS.out ?_; rotate_left; (· intro V hV; obtain ⟨q0, q1, q2, q3, q4, q5⟩ := HFX.out V hV; clear hV; go_simp; rfl); (intro K' hK'; go_simp; refine hK' _ ?_; clear hK' K')
    refine LeftL.run (v := ?_) 9 rfl (by kernel_rfl) rfl (fun _ _ d _ _ h => by cases d <;> exact h) ?_ HS.out ?_; rotate_left; (· intro V hV; obtain ⟨q0, q1, q2, q3, q4, q5⟩ := HFX.out V hV; clear hV; go_simp; rfl); (intro K' hK'; go_simp; refine hK' _ ?_; clear hK' K')
    refine LeftL.run (v := ?_) 10 rfl (by kernel_rfl) rfl (fun _ _ d _ _ h => by cases d <;> exact h) ?_ HS.out ?_; rotate_left; (· intro V hV; obtain ⟨q0, q1, q2, q3, q4, q5⟩ := HFX.out V hV; clear hV; go_simp; rfl); (intro K' hK'; go_simp; refine hK' _ ?_; clear hK' K')
    refine LeftL.run (v := ?_) 11 rfl (by kernel_rfl) rfl (fun _ _ d _ _ h => by cases d <;> exact h) ?_ HS.out ?_; rotate_left; (· intro V hV; obtain ⟨q0, q1, q2, q3, q4, q5⟩ := HFX.out V hV; clear hV; go_simp; rfl); (intro K' hK'; go_simp; refine hK' _ ?_; clear hK' K')
    refine LeftL.run (v := ?_) 12 rfl (by kernel_rfl) rfl (fun _ _ d _ _ h => by cases d <;> exact h) ?_ HS.out ?_; rotate_left; (· intro V hV; obtain ⟨q0, q1, q2, q3, q4, q5⟩ := HFX.out V hV; clear hV; go_simp; rfl); (intro K' hK'; go_simp; refine hK' _ ?_; clear hK' K')
    refine LeftL.run (v := ?_) 13 rfl (by kernel_rfl) rfl (fun _ _ d _ _ h => by cases d <;> exact h) ?_ HS.out ?_; rotate_left; (· intro V hV; obtain ⟨q0, q1, q2, q3, q4, q5⟩ := HFX.out V hV; clear hV; go_simp; rfl); (intro K' hK'; go_simp; refine hK' _ ?_; clear hK' K')
    refine LeftL.run (v := ?_) 14 rfl (by kernel_rfl) rfl (fun _ _ d _ _ h => by cases d <;> exact h) ?_ HS.out ?_; rotate_left; (· intro V hV; obtain ⟨q0, q1, q2, q3, q4, q5⟩ := HFX.out V hV; clear hV; go_simp; rfl); (intro K' hK'; go_simp; refine hK' _ ?_; clear hK' K')
    refine LeftL.run (v := ?_) 15 rfl (by kernel_rfl) rfl (fun _ _ d _ _ h => by cases d <;> exact h) ?_ HS.out ?_; rotate_left; (· intro V hV; obtain ⟨q0, q1, q2, q3, q4, q5⟩ := HFX.out V hV; clear hV; go_simp; rfl); (intro K' hK'; go_simp; refine hK' _ ?_; clear hK' K')
    refine LeftL.run (v := ?_) 16 rfl (by kernel_rfl) rfl (fun _ _ d _ _ h => by cases d <;> exact h) ?_ HS.out ?_; rotate_left; (· intro V hV; obtain ⟨q0, q1, q2, q3, q4, q5⟩ := HFX.out V hV; clear hV; go_simp; rfl); (intro K' hK'; go_simp; refine hK' _ ?_; clear hK' K')
    refine LeftL.run (v := ?_) 17 rfl (by kernel_rfl) rfl (fun _ _ d _ _ h => by cases d <;> exact h) ?_ HS.out ?_; rotate_left; (· intro V hV; obtain ⟨q0, q1, q2, q3, q4, q5⟩ := HFX.out V hV; clear hV; go_simp; rfl); (intro K' hK'; go_simp; refine hK' _ ?_; clear hK' K')
    refine LeftL.run (v := ?_) 18 rfl (by kernel_rfl) rfl (fun _ _ d _ _ h => by cases d <;> exact h) ?_ HS.out ?_; rotate_left; (· intro V hV; obtain ⟨q0, q1, q2, q3, q4, q5⟩ := HFX.out V hV; clear hV; go_simp; rfl); (intro K' hK'; go_simp; refine hK' _ ?_; clear hK' K')
    refine LeftL.run (v := ?_) 19 rfl (by kernel_rfl) rfl (fun _ _ d _ _ h => by cases d <;> exact h) ?_ HS.out ?_; rotate_left; (· intro V hV; obtain ⟨q0, q1, q2, q3, q4, q5⟩ := HFX.out V hV; clear hV; go_simp; rfl); (intro K' hK'; go_simp; refine hK' _ ?_; clear hK' K')
    refine LeftL.one 20 rfl (by kernel_rfl) ?_
    go_wp2_with fail
    have hS2 := ((Frm.refl w5.heap.size [] w5).alloc (Nat.le_refl _) (.cells #[.string s, .int .i64 u.speed, .int .i64 u.fuel, .int .i64 u.burn, .int .i64 u.reserve, .int .i64 u.hours, .int .i64 u.sea, .int .i64 u.wind, .int .i64 u.bx, .int .i64 u.by_, .int .i64 u.margin, .int .i64 u.level, .slice sa m scap, .int .i64 lx, .int .i64 ly, .int .i64 since, .int .i64 t, .int .i64 fu] 103)).drew
    obtain ⟨T, hT⟩ : ∃ T, T = w5.heap.size := ⟨_, rfl⟩
    have hbT : Blk (w5.alloc (.cells #[.string s, .int .i64 u.speed, .int .i64 u.fuel, .int .i64 u.burn, .int .i64 u.reserve, .int .i64 u.hours, .int .i64 u.sea, .int .i64 u.wind, .int .i64 u.bx, .int .i64 u.by_, .int .i64 u.margin, .int .i64 u.level, .slice sa m scap, .int .i64 lx, .int .i64 ly, .int .i64 since, .int .i64 t, .int .i64 fu] 103)).drew w5.heap.size 103 (tripC u (.slice sa m scap) since g) := by
      have e : tripC u (.slice sa m scap) since g = [.string s, .int .i64 u.speed, .int .i64 u.fuel, .int .i64 u.burn, .int .i64 u.reserve, .int .i64 u.hours, .int .i64 u.sea, .int .i64 u.wind, .int .i64 u.bx, .int .i64 u.by_, .int .i64 u.margin, .int .i64 u.level, .slice sa m scap, .int .i64 lx, .int .i64 ly, .int .i64 since, .int .i64 t, .int .i64 fu] := by
        unfold tripC; rw [HUU.out, HGE.out]; rfl
      rw [e]; exact (Blk.new _ _ _).drew
    rw [← hT] at hbT hS2 ⊢
    have hTw : w.heap.size ≤ T := by rw [hT]; exact HX.out.2.size
    have hbu : Blk w5 w.heap.size 25 u.cells ∧ w.heap.size < T := ⟨HX.out.1, by rw [hT]; exact HX.out.1.lt⟩
    have h16T : p < T := by rw [hT]; exact B16.out.lt
    clear HS HFX HLU hT
    have HS := Lib.hid hS2
    have HBT := Lib.hid hbT
    have HTW := Lib.hid hTw
    have HBU := Lib.hid hbu
    have H16T := Lib.hid h16T
    clear h16T hbu hTw hbT hS2
    first | refine ⟨fun _ => HS.out, ?_⟩ | refine ⟨HS.out, ?_⟩
    refine LeftL.one 21 rfl (by kernel_rfl) ?_
    go_wp2_with fail
    first | refine ⟨fun _ => HS.out, ?_⟩ | refine ⟨HS.out, ?_⟩
    refine LeftL.done (by kernel_rfl) ?_
    clear ww1 ww2 ww3 ww4 ww5
    go_upto_region 10 with fail
    refine namedC ?_; intro W6 hW6
    rw [← hW6] at HS HBT
    replace HX := Lib.hid (And.intro (HS.out.blk HBU.out.1 HBU.out.2 (by simp)) (HX.out.2.call HS.out HTW.out (by simp)))
    have b16 := HS.out.blk B16.out H16T.out (by simp)
    clear hW6 HS B16 B14
    have k0 : W6.cell? ⟨p, 0, none⟩ = some (.int .i64 lx) := b16.cell 0
    have k1 : W6.cell? ⟨p, 1, none⟩ = some (.int .i64 ly) := b16.cell 1
    clear b16
    by_cases hr0 : rn = 0
    · obtain ⟨y, hyy⟩ : ∃ y, y = whyOf u m S since g (hereW g) := ⟨_, rfl⟩
      have hcells : (hereW g).cells.toArray = #[.int .i64 lx, .int .i64 ly, .int .i64 0] := by rw [HGE.out]; rfl
      have hgo : o = if y ≠ 0 then some (0, y, 9) else stopO u m S since g rn R := by rw [HOI2.out]; unfold goO; rw [← hyy]; simp [hr0]
      subst hr0
      have htry := try_any T u since g (hereW g) sa sb soff m scap S W6 HBT.out (HRS.out.frm HX.out.2 (Nat.le_refl _)) (HGL.out.frm HX.out.2 (Nat.le_refl _)) HU.out HGOK.out (here_ok HGOK.out) HL0.out
      rw [hcells, ← hyy] at htry
      obtain ⟨lt, hlt⟩ : ∃ l, l = legOf u g (hereW g) := ⟨_, rfl⟩
      rw [← hlt] at htry
      clear hcells hlt
      have HGO := Lib.hid hgo
      have HTRY := Lib.hid htry
      have HYY := Lib.hid hyy
      clear hyy htry hgo
      go_wp2_with fail
      refine HTRY.out.mono ?_; rintro e w7 ⟨rfl, hf7⟩
      replace HX := Lib.hid (boxNext HX.out hf7)
      replace HBT := Lib.hid (hf7.blk HBT.out HBT.out.lt (by simp))
      clear hf7 HTRY k0 k1
      go_wp2_with (with_reducible refine atStore 49 rfl ?_; refine stop_ ?_)
      refine go_on ?_
      refine wpList_storeNew (P := Tryd.prog) (cs := lt.cells) rfl rfl rfl rfl rfl info49 (by simp [LC.cells, Value.oneCell']) ?_
      intro w8 hf8 hb8 hz8
      replace HX := Lib.hid (boxNext HX.out hf8)
      replace HBT := Lib.hid (hf8.blk HBT.out HBT.out.lt (by simp))
      clear hf8 hb8 hz8
      by_cases hy0 : y = 0
      · subst hy0
        have hos : o = stopO u m S since g 0 R := by rw [HGO.out, if_neg (by simp)]
        have HOS := Lib.hid hos
        clear hos
        go_wp2_with fail
        refine (plan_any T u since g sa sb soff m scap S ra rb roff 0 rcap R w w8 HX.out.2 HRS.out HRR.out HGL.out HBT.out HTW.out HU.out HGOK.out (fun i hi => route_at HC3.out hi) HL0.out (by omega)).mono ?_
        rintro e w9 ⟨hf9, (⟨ov, own, rfl, hsl, hown, hall⟩ | ⟨k, hk, hno, hyk, rfl⟩)⟩
        · have hs0 : o = none := by rw [HOS.out]; exact stop_none hall
          obtain ⟨oa, ocp, rfl⟩ := hsl.form
          have hfz : Frm w.heap.size [] w w9 := HX.out.2.call hf9 HX.out.2.size (by have := HTW.out; simp; omega)
          have hsl2 : Sl w9 49 8 (.slice oa (0 + 1) ocp) (0 + 1) ((List.range (0 + 1)).flatMap fun i => (planL u R g 0 i).cells) own := by rw [← planL_cells]; exact hsl
          have hown2 : ∀ b, own = some b → w.heap.size ≤ b := fun b hb => by have := hown b hb; have := HX.out.2.size; omega
          clear hf9 hsl hown hall
          have HOX := Lib.hid hs0
          have HFZ := Lib.hid hfz
          have HSL2 := Lib.hid hsl2
          have HOWN2 := Lib.hid hown2
          clear hown2 hsl2 hfz hs0
          go_wp2_with fail
          refine bodyPost_ret (v := .tuple #[.slice oa (0 + 1) ocp, .int .i64 (-1), .int .i64 0, .int .i64 0]) (by simp [results, Tryd.results39, go_sem]) rfl ?_
          exact ⟨HFZ.out, by have h := HOX.out; subst h; have h2 := HGX.out; subst h2; exact ⟨_, own, rfl, HSL2.out, HOWN2.out⟩⟩
        · have hs0 : o = some ((k : Int), ysq u m S since R g k, 9) := by rw [HOS.out]; exact stop_some hk hno hyk
          obtain ⟨yk, hyk2⟩ : ∃ y, y = ysq u m S since R g k := ⟨_, rfl⟩
          rw [← hyk2] at hs0 ⊢
          have hfz : Frm w.heap.size [] w w9 := HX.out.2.call hf9 HX.out.2.size (by have := HTW.out; simp; omega)
          rw [← hyk2] at hyk
          clear hf9 hno hyk hyk2
          have HOX := Lib.hid hs0
          have HFZ := Lib.hid hfz
          clear hfz hs0
          go_wp2_with fail
          refine bodyPost_ret (v := .tuple #[.slice none 0 0, .int .i64 k, .int .i64 yk, .int .i64 9]) (by simp [results, Tryd.results39, go_sem]) rfl ?_
          exact ⟨HFZ.out, by have h := HOX.out; subst h; rfl⟩
      · have ho : o = some (0, y, 9) := by rw [HGO.out, if_pos hy0]
        have HOX := Lib.hid ho
        clear ho
        go_wp2_with fail
        refine bodyPost_ret (v := .tuple #[.slice none 0 0, .int .i64 0, .int .i64 y, .int .i64 9]) (by simp [results, Tryd.results39, go_sem]) rfl ?_
        exact ⟨HX.out.2, by have h := HOX.out; subst h; rfl⟩
    · have hr0' : ¬ (rn : Int) = 0 := by omega
      have hos : o = stopO u m S since g rn R := by rw [HOI2.out]; unfold goO; rw [if_neg (fun h => hr0 h.1)]
      clear k0 k1
      have HOS := Lib.hid hos
      clear hos
      go_wp2_with fail
      refine (plan_any T u since g sa sb soff m scap S ra rb roff rn rcap R w W6 HX.out.2 HRS.out HRR.out HGL.out HBT.out HTW.out HU.out HGOK.out (fun i hi => route_at HC3.out hi) HL0.out (by omega)).mono ?_
      rintro e w9 ⟨hf9, (⟨ov, own, rfl, hsl, hown, hall⟩ | ⟨k, hk, hno, hyk, rfl⟩)⟩
      · have hs0 : o = none := by rw [HOS.out]; exact stop_none hall
        obtain ⟨oa, ocp, rfl⟩ := hsl.form
        have hfz : Frm w.heap.size [] w w9 := HX.out.2.call hf9 HX.out.2.size (by have := HTW.out; simp; omega)
        have hsl2 : Sl w9 49 8 (.slice oa (rn + 1) ocp) (rn + 1) ((List.range (rn + 1)).flatMap fun i => (planL u R g rn i).cells) own := by rw [← planL_cells]; exact hsl
        have hown2 : ∀ b, own = some b → w.heap.size ≤ b := fun b hb => by have := hown b hb; have := HX.out.2.size; omega
        clear hf9 hsl hown hall
        have HOX := Lib.hid hs0
        have HFZ := Lib.hid hfz
        have HSL2 := Lib.hid hsl2
        have HOWN2 := Lib.hid hown2
        clear hown2 hsl2 hfz hs0
        go_wp2_with fail
        refine bodyPost_ret (v := .tuple #[.slice oa (rn + 1) ocp, .int .i64 (-1), .int .i64 0, .int .i64 0]) (by simp [results, Tryd.results39, go_sem]) rfl ?_
        exact ⟨HFZ.out, by have h := HOX.out; subst h; have h2 := HGX.out; subst h2; exact ⟨_, own, rfl, HSL2.out, HOWN2.out⟩⟩
      · have hs0 : o = some ((k : Int), ysq u m S since R g k, 9) := by rw [HOS.out]; exact stop_some hk hno hyk
        obtain ⟨yk, hyk2⟩ : ∃ y, y = ysq u m S since R g k := ⟨_, rfl⟩
        rw [← hyk2] at hs0 ⊢
        have hfz : Frm w.heap.size [] w w9 := HX.out.2.call hf9 HX.out.2.size (by have := HTW.out; simp; omega)
        rw [← hyk2] at hyk
        clear hf9 hno hyk hyk2
        have HOX := Lib.hid hs0
        have HFZ := Lib.hid hfz
        clear hfz hs0
        go_wp2_with fail
        refine bodyPost_ret (v := .tuple #[.slice none 0 0, .int .i64 k, .int .i64 yk, .int .i64 9]) (by simp [results, Tryd.results39, go_sem]) rfl ?_
        exact ⟨HFZ.out, by have h := HOX.out; subst h; rfl⟩
end Go.Proofs.YtghkfopcjdkieaaDoor
