/-
  The law's opening example holds.
-/
import Derived.Test.YtghkfopcjdkieaaDoorU26
namespace Go.Proofs.YtghkfopcjdkieaaDoor
set_option linter.all false
set_option linter.unusedSimpArgs false
set_option linter.unusedVariables false
open Go.RowKit

theorem info23x : (Tryd.prog.info? 23).map (fun i => i.size) = some 2 := by kernel_rfl
theorem rw_none (w : World) (size : Nat) (f : Nat → List Value) : Rw w size none 0 0 0 f := ⟨fun h => absurd h (by omega), Nat.zero_le _, fun i hi => absurd hi (by omega)⟩
theorem Rw.frmS {w w' : World} {size : Nat} {ad : Option Addr} {b off n : Nat} {f : Nat → List Value} {S : List Nat} (h : Rw w size ad b off n f) (hf : Frm w.heap.size S w w') (hb : b ∉ S) : Rw w' size ad b off n f := by
  refine ⟨h.ad, h.len, fun i hi k v hv => ?_⟩
  have h0 := h.at_ i hi k v hv
  have := cell_lt h0
  rw [hf.cell (by simpa using this) (by simpa using hb)]
  exact h0
theorem route_rw {w : World} {r : Nat} {st : Int} (h : Blk w r 51 [.int .i64 300, .int .i64 0, .int .i64 st, .int .i64 300, .int .i64 100, .int .i64 0]) : Rw w 3 (some ⟨r, 0, none⟩) r 0 2 fun i => (exR st i).cells := by
  refine ⟨fun _ => rfl, by decide, fun i hi k v hv => ?_⟩
  have hk : k < 3 := (List.getElem?_eq_some_iff.1 hv).1
  rw [h.cell]
  match i, hi, k, hk with
  | 0, _, 0, _ | 0, _, 1, _ | 0, _, 2, _ | 1, _, 0, _ | 1, _, 1, _ | 1, _, 2, _ => exact hv

set_option maxRecDepth 100000 in
set_option maxHeartbeats 4000000 in
theorem awake_any (w : World) (hgl : Glob w) : Calls Tryd.prog 16 #[] w fun e w' => e = .returned (.bool true) ∧ Frm w.heap.size [] w w' := by
  have hf0 := Tryd.func16
  have HGL := Lib.hid hgl
  clear hgl
  go_enter Tryd.func16, Tryd.ntmps16
  go_wp2_with fail
  refine (example_any w).mono ?_; rintro e w1 ⟨rfl, hf1⟩
  have HF1 := Lib.hid hf1
  clear hf1
  go_wp2_with (with_reducible refine atStore 25 rfl ?_; refine stop_ ?_)
  refine go_on ?_
  refine wpList_storeNew (P := Tryd.prog) (cs := exU.cells) rfl rfl rfl rfl rfl (UC.info exU) (by simp [UC.cells, exU, Value.oneCell']) ?_
  intro W2 hf2 hb2 hz2
  obtain ⟨c, hc⟩ : ∃ c, c = w1.heap.size := ⟨_, rfl⟩
  rw [← hc] at hb2 ⊢
  have hcw : w.heap.size ≤ c := by rw [hc]; exact HF1.out.size
  have hfw := HF1.out.call hf2 HF1.out.size (by simp)
  clear hf2 hz2 hc HF1
  have HB := Lib.hid hb2
  have HF := Lib.hid hfw
  have HCW := Lib.hid hcw
  clear hcw hfw hb2
  simp only [Act.put]
  go_upto_region 3 with fail
  refine namedC ?_; intro W3 hW3
  have hr3 : Blk W3 W2.heap.size 51 [.int .i64 300, .int .i64 0, .int .i64 10, .int .i64 300, .int .i64 100, .int .i64 0] := by rw [hW3]; exact Blk.new W2 51 _
  have hf3 : Frm W2.heap.size [] W2 W3 := by rw [hW3]; exact (Frm.refl _ _ _).alloc (Nat.le_refl _) _
  clear hW3
  have hb3 := hf3.blk HB.out HB.out.lt (by simp)
  have hfw3 := HF.out.call hf3 HF.out.size (by simp)
  obtain ⟨r, hr⟩ : ∃ r, r = W2.heap.size := ⟨_, rfl⟩
  have hcr : c < r := by rw [hr]; exact HB.out.lt
  rw [← hr] at hr3 ⊢
  clear hr hf3 HB HF
  have hlo := loadVarB hb3 (P := Tryd.prog) Tryd.underlying25 rfl (UC.info exU)
  have HB := Lib.hid hb3
  have HF := Lib.hid hfw3
  have HR := Lib.hid hr3
  have HLO := Lib.hid hlo
  have HCR := Lib.hid hcr
  clear hcr hlo hr3 hfw3 hb3
  go_wp2_with (with_reducible refine atLoad 25 rfl ?_; refine wpList_loadE rfl rfl rfl HLO.out ?_)
  refine (Plan_any exU exS rfl 100 none 0 0 0 0 exF (some ⟨r, 0, none⟩) r 0 2 2 (exR 10) W3 (rw_none _ _ _) (route_rw HR.out) (HGL.out.frm HF.out (Nat.le_refl _))).mono ?_
  rintro e w4 ⟨hf4, (⟨hin, rfl⟩ | ⟨hin, h30, rfl⟩ | ⟨hin, h30, hall, ov, own, rfl, hsl, hown⟩ | ⟨hin, h30, i, hi, hno, hy, rfl⟩)⟩
  · exact absurd (ex_in 10 (by kernel_rfl)) (by rw [hin]; decide)
  · omega
  · rw [ex_legs] at hsl
    obtain ⟨b, off, cap, rfl, ho, hrl⟩ := hsl.rw_ (fun i => by rfl) (by omega)
    rw [show (2 + 1 : Nat) = 3 from rfl] at hrl ⊢
    have hbr : r < b := Nat.lt_of_lt_of_le HR.out.lt (hown b ho)
    have hsll := hsl
    have hfw4 := HF.out.call hf4 HF.out.size (by simp)
    have hb4 := hf4.blk HB.out HB.out.lt (by simp)
    have hr4 := hf4.blk HR.out HR.out.lt (by simp)
    clear hf4 hin h30 hall hsl hsll hown ho HLO HB HF HR
    have k2 : w4.cell? ⟨r, 2, none⟩ = some (.int .i64 10) := hr4.cell 2
    have g2 := hr4.free 2
    have HF := Lib.hid hfw4
    have HB := Lib.hid hb4
    have HR := Lib.hid hr4
    have HRL := Lib.hid hrl
    have HBR := Lib.hid hbr
    clear hbr hrl hr4 hb4 hfw4
    go_upto_region 5 with fail
    refine namedC ?_; intro W5 hW5
    have hr5 : Blk W5 r 51 [.int .i64 300, .int .i64 0, .int .i64 184, .int .i64 300, .int .i64 100, .int .i64 0] := by rw [hW5]; exact HR.out.set 2 _
    have hb5 : Blk W5 c 25 exU.cells := by rw [hW5]; exact HB.out.other' (by dsimp only; have := HCR.out; omega)
    have hf5 : Frm w.heap.size [] w W5 := by rw [hW5]; exact HF.out.setCell (.inr (by have := HCR.out; have := HCW.out; dsimp only; omega)) _
    have hl5 : Rw W5 8 (some ⟨b, off, none⟩) b off 3 fun i => (exL i).cells := by rw [hW5]; exact HRL.out.frmS ((Frm.refl _ [r] _).setCell (.inl (by simp)) _) (by have := HBR.out; simp; omega)
    clear hW5 k2 g2 HR HB HF HRL
    have hlo := loadVarB hb5 (P := Tryd.prog) Tryd.underlying25 rfl (UC.info exU)
    have HR := Lib.hid hr5
    have HB := Lib.hid hb5
    have HF := Lib.hid hf5
    have HRL := Lib.hid hl5
    have HLO := Lib.hid hlo
    clear hlo hl5 hf5 hb5 hr5
    go_wp2_with (with_reducible refine atLoad 25 rfl ?_; refine wpList_loadE rfl rfl rfl HLO.out ?_)
    refine (Plan_any exU exS rfl 100 none 0 0 0 0 exF (some ⟨r, 0, none⟩) r 0 2 2 (exR 184) W5 (rw_none _ _ _) (route_rw HR.out) (HGL.out.frm HF.out (Nat.le_refl _))).mono ?_
    rintro e w6 ⟨hf6, (⟨hin, rfl⟩ | ⟨hin, h30, rfl⟩ | ⟨hin, h30, hall, ov, own, rfl, hsl, hown⟩ | ⟨hin, h30, i, hi, hno, hy, rfl⟩)⟩
    · exact absurd (ex_in 184 (by kernel_rfl)) (by rw [hin]; decide)
    · omega
    · have h := hall 1 (by omega); rw [ex_z1] at h; omega
    · have hi1 : i = 1 := by
        rcases (show i = 0 ∨ i = 1 by omega) with h | h
        · subst h; exact absurd ex_z0 hy
        · exact h
      subst hi1
      rw [ex_z1]
      have hfw6 := HF.out.call hf6 HF.out.size (by simp)
      have hb6 := hf6.blk HB.out HB.out.lt (by simp)
      have hl6 := HRL.out.frm hf6 (Nat.le_refl _)
      clear hf6 hin h30 hno hy HLO HB HF HR HRL hi
      have HF := Lib.hid hfw6
      have HB := Lib.hid hb6
      have HRL := Lib.hid hl6
      clear hl6 hb6 hfw6
      go_upto_region 8 with fail
      go_wp2_with fail
      refine (where_any (some ⟨b, off, none⟩) b off 3 cap exL 250 w6 HRL.out).mono ?_; rintro e w7 ⟨rfl, hf7⟩
      rw [ex_where]
      have hfw7 := HF.out.call hf7 HF.out.size (by simp)
      have hb7 := hf7.blk HB.out HB.out.lt (by simp)
      have hl7 := HRL.out.frm hf7 (Nat.le_refl _)
      clear hf7 HB HF HRL
      have HF := Lib.hid hfw7
      have HB := Lib.hid hb7
      have HRL := Lib.hid hl7
      clear hl7 hb7 hfw7
      go_wp2_with (with_reducible refine atStore 23 rfl ?_; refine stop_ ?_)
      refine go_on ?_
      obtain ⟨p11, hp11⟩ : ∃ p11, p11 = w7.heap.size := ⟨_, rfl⟩
      refine wpList_storeNew2 (zs := [.int .i64 0, .int .i64 0]) (cs := [.int .i64 150, .int .i64 0]) (ds := [.int .i64 150, .int .i64 0]) rfl rfl rfl rfl rfl rfl rfl rfl rfl rfl rfl rfl info23x (by simp [Value.oneCell']) (by simp [Value.oneCell']) ?_
      intro W8 hf8 b11 b12
      rw [← hp11] at b11 b12 ⊢
      have hfw8 := HF.out.call hf8 HF.out.size (by simp)
      have hb8 := hf8.blk HB.out HB.out.lt (by simp)
      have hl8 := HRL.out.frm hf8 (Nat.le_refl _)
      have hlo8 := loadVarB hb8 (P := Tryd.prog) Tryd.underlying25 rfl (UC.info exU)
      clear hf8 HB HF HRL b12 hp11
      have HF := Lib.hid hfw8
      have HB := Lib.hid hb8
      have HRL := Lib.hid hl8
      have HB11 := Lib.hid b11
      have HLO := Lib.hid hlo8
      clear hlo8 b11 hl8 hb8 hfw8
      go_wp2_with (with_reducible refine atLoad 25 rfl ?_; refine wpList_loadE rfl rfl rfl HLO.out ?_)
      refine (left_any exU exS rfl (some ⟨b, off, none⟩) b off 3 cap exL 250 W8 HRL.out).mono ?_; rintro e w9 ⟨rfl, hf9⟩
      rw [ex_left]
      have hfw9 := HF.out.call hf9 HF.out.size (by simp)
      have hb9 := hf9.blk HB.out HB.out.lt (by simp)
      have hl9 := HRL.out.frm hf9 (Nat.le_refl _)
      have b11' := hf9.blk HB11.out HB11.out.lt (by simp)
      have hlo9 := loadVarB hb9 (P := Tryd.prog) Tryd.underlying25 rfl (UC.info exU)
      clear hf9 HB HF HRL HB11 HLO
      have HF := Lib.hid hfw9
      have HB := Lib.hid hb9
      have HRL := Lib.hid hl9
      have HB11 := Lib.hid b11'
      have HLO := Lib.hid hlo9
      clear hlo9 b11' hl9 hb9 hfw9
      go_wp2_with (with_reducible refine atLoad 25 rfl ?_; refine wpList_loadE rfl rfl rfl HLO.out ?_)
      refine (boxes_any exU exS rfl (some ⟨b, off, none⟩) b off 3 cap exL 2 w9 HRL.out (by omega)).mono ?_
      rintro e w10 ⟨hf10, (⟨hv, _⟩ | ⟨_, hv, _⟩ | ⟨_, _, bv, bown, rfl, hsb, hbo⟩)⟩
      · rw [ex_valid] at hv; cases hv
      · exact absurd hv (by decide)
      · rw [show ((2 : Int).toNat) = 2 from rfl, ex_boxes] at hsb
        have hcl : boxC (boxesOf exU exL 2 3) = (List.range 7).flatMap fun i => (exB i).cells := by
          unfold boxC; rw [flat_range _ bx0, ex_boxes]; rfl
        rw [hcl] at hsb
        obtain ⟨b2, off2, cap2, rfl, _, hrb⟩ := hsb.rw_ (fun i => by rfl) (by omega)
        have hfw10 := HF.out.call hf10 HF.out.size (by simp)
        have hl10 := HRL.out.frm hf10 (Nat.le_refl _)
        have b11' := hf10.blk HB11.out HB11.out.lt (by simp)
        clear hf10 HB HF HRL HB11 HLO hsb hcl hbo
        have HF := Lib.hid hfw10
        have HRL := Lib.hid hl10
        have HB11 := Lib.hid b11'
        have HRB := Lib.hid hrb
        clear hrb b11' hl10 hfw10
        go_wp2_with fail
        refine (clash_any (some ⟨b2, off2, none⟩) b2 off2 7 cap2 exB (some ⟨b2, off2, none⟩) b2 off2 7 cap2 exB w10 HRB.out HRB.out).mono ?_
        rintro e w11 ⟨⟨rr, qq, rfl, hcs⟩, hf11⟩
        have hrq : rr = 0 ∧ qq = 0 := by
          rcases hcs with ⟨_, _, h⟩ | ⟨i, k, hi, hk, rfl, rfl, hm, h1, h2⟩
          · have := h 0 (by omega) 0 (by omega); rw [ex_meet] at this; cases this
          · have hi0 : i = 0 := by
              rcases Nat.eq_zero_or_pos i with h | h
              · exact h
              · have := h2 0 h 0 (by omega); rw [ex_meet] at this; cases this
            subst hi0
            rcases Nat.eq_zero_or_pos k with h | h
            · subst h; exact ⟨rfl, rfl⟩
            · have := h1 0 h; rw [ex_meet] at this; cases this
        obtain ⟨rfl, rfl⟩ := hrq
        have hfw11 := HF.out.call hf11 HF.out.size (by simp)
        have hl11 := HRL.out.frm hf11 (Nat.le_refl _)
        have b11' := hf11.blk HB11.out HB11.out.lt (by simp)
        clear hf11 HF HRL HB11 HRB hcs
        have HF := Lib.hid hfw11
        have HRL := Lib.hid hl11
        have HB11 := Lib.hid b11'
        clear b11' hl11 hfw11
        go_wp2_with fail
        refine (distance_any 0 0 1 1 w11).mono ?_; rintro e w12 ⟨rfl, hf12⟩
        rw [ex_dist]
        have hfw12 := HF.out.call hf12 HF.out.size (by simp)
        have hl12 := HRL.out.frm hf12 (Nat.le_refl _)
        have b11' := hf12.blk HB11.out HB11.out.lt (by simp)
        have k0 : w12.cell? ⟨p11, 0, none⟩ = some (.int .i64 150) := b11'.cell 0
        have k1 : w12.cell? ⟨p11, 1, none⟩ = some (.int .i64 0) := b11'.cell 1
        have l0 : w12.cell? ⟨b, off + 6, none⟩ = some (.int .i64 410) := hl12.at_ 0 (by omega) 6 _ rfl
        have l1 : w12.cell? ⟨b, off + 8 + 6, none⟩ = some (.int .i64 510) := hl12.at_ 1 (by omega) 6 _ rfl
        have l2 : w12.cell? ⟨b, off + 16 + 6, none⟩ = some (.int .i64 827) := hl12.at_ 2 (by omega) 6 _ rfl
        have l3 : w12.cell? ⟨b, off + 16 + 7, none⟩ = some (.int .i64 273) := hl12.at_ 2 (by omega) 7 _ rfl
        clear hf12 HF HRL HB11 hl12 b11'
        have HF := Lib.hid hfw12
        clear hfw12
        go_wp2_with fail
        go_ret
        exact ⟨rfl, HF.out⟩
  · match i, hi with
    | 0, _ => exact absurd ex_y0 hy
    | 1, _ => exact absurd ex_y1 hy
end Go.Proofs.YtghkfopcjdkieaaDoor
