/-
  Whether legs are valid.
-/
import Derived.Test.YtghkfopcjdkieaaDoorU18
namespace Go.Proofs.YtghkfopcjdkieaaDoor
set_option linter.all false
set_option linter.unusedSimpArgs false
set_option linter.unusedVariables false
open Go.RowKit

/-- Is a leg valid by itself? -/
def legB (f : LC) : Bool := placeB f.fx f.fy && placeB f.tx f.ty && timeB f.start && timeB f.arrive && timeB f.leave && decide (f.start ≤ f.arrive) && decide (f.arrive ≤ f.leave) && !(decide (f.start = f.arrive) && !(decide (f.fx = f.tx) && decide (f.fy = f.ty))) && inB f.fuel 0 1073741824
/-- Does a leg begin where another one ends? -/
def joinB (p f : LC) : Bool := decide (f.fx = p.tx) && decide (f.fy = p.ty) && decide (f.start = p.leave)
def legsB (n : Nat) (L : Nat → LC) : Bool := decide (0 < n) && (List.range n).all fun i => legB (L i) && (decide (i = 0) || joinB (L (i - 1)) (L i))

set_option maxRecDepth 100000 in
set_option maxHeartbeats 4000000 in
theorem valid_any (ad : Option Addr) (b off n cap : Nat) (L : Nat → LC) (w : World) (hr : Rw w 8 ad b off n fun i => (L i).cells) :
    Calls Tryd.prog 64 #[.slice ad n cap] w fun e w' => e = .returned (.bool (legsB n L)) ∧ Frm w.heap.size [] w w' := by
  have hf0 := Tryd.func64
  have hlen := hr.len
  have HR := Lib.hid hr
  clear hr
  go_enter Tryd.func64, Tryd.ntmps64
  go_wp2_with fail
  go_loopw [7] (fun i7 wr => ∃ j : Nat, i7 = .int .i64 j ∧ j ≤ n ∧ (∀ k, k < j → legB (L k) = true ∧ (k = 0 ∨ joinB (L (k - 1)) (L k) = true)) ∧ Frm w.heap.size [] w wr) (fun i7 _ => n - (intOf i7).toNat)
  case atStart => exact ⟨0, rfl, Nat.zero_le _, fun k hk => by omega, by repeat (first | with_reducible exact Frm.refl _ _ _ | with_reducible refine Frm.drewN ?_ | with_reducible refine Frm.drew ?_ | ((with_reducible refine Frm.setCell' ?_ ?_); · first | (left; simp; done) | (right; simp; done) | (right; simp; omega)) | ((with_reducible refine Frm.alloc' ?_ ?_); · first | exact Nat.le_refl _ | (simp; done) | (simp; omega)))⟩
  case round =>
    obtain ⟨j, rfl, hj, hall, hfr⟩ := hrel
    by_cases hjl : j < n
    · have hjl' : (j : Int) < (n : Int) := by omega
      have had := HR.out.ad (by omega)
      subst had
      have hrw := HR.out.frm hfr (Nat.le_refl _)
      obtain ⟨f, hf⟩ : ∃ f, f = L j := ⟨_, rfl⟩
      have hlo := hrw.load (P := Tryd.prog) Tryd.underlying49 rfl hjl info49
      rw [← hf] at hlo
      have HLO := Lib.hid hlo
      have HRW := Lib.hid hrw
      have HFR := Lib.hid hfr
      have HFF := Lib.hid hf
      have HALL := Lib.hid hall
      clear hall hf hfr hrw hlo
      go_wp2_with (first | (with_reducible refine atLoad 49 rfl ?_; refine wpList_loadE rfl rfl rfl HLO.out ?_) | (with_reducible refine atStore 49 rfl ?_; refine stop_ ?_))
      refine go_on ?_
      refine wpList_storeNew (P := Tryd.prog) (cs := f.cells) rfl rfl rfl rfl rfl info49 (by simp [LC.cells, Value.oneCell']) ?_
      intro W1 hfW1 hbW1 hsz
      have hf2 : Frm w.heap.size [] w W1 := HFR.out.call hfW1 HFR.out.size (by simp)
      have HX := Lib.hid (And.intro hbW1 hf2)
      have hwj : wr.heap.size = wr.heap.size := rfl
      clear hfW1 hbW1 hsz hf2 HFR HRW HLO hwj
      obtain ⟨b4, hb4⟩ : ∃ b4, b4 = wr.heap.size := ⟨_, rfl⟩
      rw [← hb4] at HX ⊢
      clear hb4
      simp only [Act.put]
      go_upto_region 4 with fail
      go_cut [73] from 12 to 73 (fun s73 w' => s73 = .bool (!legB f) ∧ (Blk w' b4 49 f.cells ∧ Frm w.heap.size [] w w'))
      case first =>
        (have c0 : W1.cell? ⟨b4, 0, none⟩ = some (.int .i64 f.fx) := HX.out.1.cell 0; have c1 : W1.cell? ⟨b4, 1, none⟩ = some (.int .i64 f.fy) := HX.out.1.cell 1; have c2 : W1.cell? ⟨b4, 2, none⟩ = some (.int .i64 f.tx) := HX.out.1.cell 2; have c3 : W1.cell? ⟨b4, 3, none⟩ = some (.int .i64 f.ty) := HX.out.1.cell 3; have c4 : W1.cell? ⟨b4, 4, none⟩ = some (.int .i64 f.start) := HX.out.1.cell 4; have c5 : W1.cell? ⟨b4, 5, none⟩ = some (.int .i64 f.arrive) := HX.out.1.cell 5; have c6 : W1.cell? ⟨b4, 6, none⟩ = some (.int .i64 f.leave) := HX.out.1.cell 6; have c7 : W1.cell? ⟨b4, 7, none⟩ = some (.int .i64 f.fuel) := HX.out.1.cell 7)
        cases hc0 : placeB f.fx f.fy
        · have HC0 := Lib.hid hc0; clear hc0
          go_wp2_with (first | (go_at_call 48; refine (placed_any _ _ _).mono ?_; rintro e w1 ⟨rfl, hf1⟩; simp only [HC0.out]; replace HX := Lib.hid (boxNext HX.out hf1); clear hf1 c0 c1 c2 c3 c4 c5 c6 c7; (have c0 : w1.cell? ⟨b4, 0, none⟩ = some (.int .i64 f.fx) := HX.out.1.cell 0; have c1 : w1.cell? ⟨b4, 1, none⟩ = some (.int .i64 f.fy) := HX.out.1.cell 1; have c2 : w1.cell? ⟨b4, 2, none⟩ = some (.int .i64 f.tx) := HX.out.1.cell 2; have c3 : w1.cell? ⟨b4, 3, none⟩ = some (.int .i64 f.ty) := HX.out.1.cell 3; have c4 : w1.cell? ⟨b4, 4, none⟩ = some (.int .i64 f.start) := HX.out.1.cell 4; have c5 : w1.cell? ⟨b4, 5, none⟩ = some (.int .i64 f.arrive) := HX.out.1.cell 5; have c6 : w1.cell? ⟨b4, 6, none⟩ = some (.int .i64 f.leave) := HX.out.1.cell 6; have c7 : w1.cell? ⟨b4, 7, none⟩ = some (.int .i64 f.fuel) := HX.out.1.cell 7)) | (go_at_call 52; refine (timed_any _ _).mono ?_; rintro e w' ⟨rfl, rfl⟩; simp only [HC0.out]) | (go_at_call 55; refine (within_any _ _ _ _).mono ?_; rintro e w' ⟨rfl, rfl⟩; simp only [HC0.out]))
          all_goals (go_meet; case rel => exact ⟨by unfold legB; simp [HC0.out], HX.out⟩)
        · have HC0 := Lib.hid hc0; clear hc0
          cases hc1 : placeB f.tx f.ty
          · have HC1 := Lib.hid hc1; clear hc1
            go_wp2_with (first | (go_at_call 48; refine (placed_any _ _ _).mono ?_; rintro e w1 ⟨rfl, hf1⟩; simp only [HC0.out, HC1.out]; replace HX := Lib.hid (boxNext HX.out hf1); clear hf1 c0 c1 c2 c3 c4 c5 c6 c7; (have c0 : w1.cell? ⟨b4, 0, none⟩ = some (.int .i64 f.fx) := HX.out.1.cell 0; have c1 : w1.cell? ⟨b4, 1, none⟩ = some (.int .i64 f.fy) := HX.out.1.cell 1; have c2 : w1.cell? ⟨b4, 2, none⟩ = some (.int .i64 f.tx) := HX.out.1.cell 2; have c3 : w1.cell? ⟨b4, 3, none⟩ = some (.int .i64 f.ty) := HX.out.1.cell 3; have c4 : w1.cell? ⟨b4, 4, none⟩ = some (.int .i64 f.start) := HX.out.1.cell 4; have c5 : w1.cell? ⟨b4, 5, none⟩ = some (.int .i64 f.arrive) := HX.out.1.cell 5; have c6 : w1.cell? ⟨b4, 6, none⟩ = some (.int .i64 f.leave) := HX.out.1.cell 6; have c7 : w1.cell? ⟨b4, 7, none⟩ = some (.int .i64 f.fuel) := HX.out.1.cell 7)) | (go_at_call 52; refine (timed_any _ _).mono ?_; rintro e w' ⟨rfl, rfl⟩; simp only [HC0.out, HC1.out]) | (go_at_call 55; refine (within_any _ _ _ _).mono ?_; rintro e w' ⟨rfl, rfl⟩; simp only [HC0.out, HC1.out]))
            all_goals (go_meet; case rel => exact ⟨by unfold legB; simp [HC0.out, HC1.out], HX.out⟩)
          · have HC1 := Lib.hid hc1; clear hc1
            cases hc2 : timeB f.start
            · have HC2 := Lib.hid hc2; clear hc2
              go_wp2_with (first | (go_at_call 48; refine (placed_any _ _ _).mono ?_; rintro e w1 ⟨rfl, hf1⟩; simp only [HC0.out, HC1.out, HC2.out]; replace HX := Lib.hid (boxNext HX.out hf1); clear hf1 c0 c1 c2 c3 c4 c5 c6 c7; (have c0 : w1.cell? ⟨b4, 0, none⟩ = some (.int .i64 f.fx) := HX.out.1.cell 0; have c1 : w1.cell? ⟨b4, 1, none⟩ = some (.int .i64 f.fy) := HX.out.1.cell 1; have c2 : w1.cell? ⟨b4, 2, none⟩ = some (.int .i64 f.tx) := HX.out.1.cell 2; have c3 : w1.cell? ⟨b4, 3, none⟩ = some (.int .i64 f.ty) := HX.out.1.cell 3; have c4 : w1.cell? ⟨b4, 4, none⟩ = some (.int .i64 f.start) := HX.out.1.cell 4; have c5 : w1.cell? ⟨b4, 5, none⟩ = some (.int .i64 f.arrive) := HX.out.1.cell 5; have c6 : w1.cell? ⟨b4, 6, none⟩ = some (.int .i64 f.leave) := HX.out.1.cell 6; have c7 : w1.cell? ⟨b4, 7, none⟩ = some (.int .i64 f.fuel) := HX.out.1.cell 7)) | (go_at_call 52; refine (timed_any _ _).mono ?_; rintro e w' ⟨rfl, rfl⟩; simp only [HC0.out, HC1.out, HC2.out]) | (go_at_call 55; refine (within_any _ _ _ _).mono ?_; rintro e w' ⟨rfl, rfl⟩; simp only [HC0.out, HC1.out, HC2.out]))
              all_goals (go_meet; case rel => exact ⟨by unfold legB; simp [HC0.out, HC1.out, HC2.out], HX.out⟩)
            · have HC2 := Lib.hid hc2; clear hc2
              cases hc3 : timeB f.arrive
              · have HC3 := Lib.hid hc3; clear hc3
                go_wp2_with (first | (go_at_call 48; refine (placed_any _ _ _).mono ?_; rintro e w1 ⟨rfl, hf1⟩; simp only [HC0.out, HC1.out, HC2.out, HC3.out]; replace HX := Lib.hid (boxNext HX.out hf1); clear hf1 c0 c1 c2 c3 c4 c5 c6 c7; (have c0 : w1.cell? ⟨b4, 0, none⟩ = some (.int .i64 f.fx) := HX.out.1.cell 0; have c1 : w1.cell? ⟨b4, 1, none⟩ = some (.int .i64 f.fy) := HX.out.1.cell 1; have c2 : w1.cell? ⟨b4, 2, none⟩ = some (.int .i64 f.tx) := HX.out.1.cell 2; have c3 : w1.cell? ⟨b4, 3, none⟩ = some (.int .i64 f.ty) := HX.out.1.cell 3; have c4 : w1.cell? ⟨b4, 4, none⟩ = some (.int .i64 f.start) := HX.out.1.cell 4; have c5 : w1.cell? ⟨b4, 5, none⟩ = some (.int .i64 f.arrive) := HX.out.1.cell 5; have c6 : w1.cell? ⟨b4, 6, none⟩ = some (.int .i64 f.leave) := HX.out.1.cell 6; have c7 : w1.cell? ⟨b4, 7, none⟩ = some (.int .i64 f.fuel) := HX.out.1.cell 7)) | (go_at_call 52; refine (timed_any _ _).mono ?_; rintro e w' ⟨rfl, rfl⟩; simp only [HC0.out, HC1.out, HC2.out, HC3.out]) | (go_at_call 55; refine (within_any _ _ _ _).mono ?_; rintro e w' ⟨rfl, rfl⟩; simp only [HC0.out, HC1.out, HC2.out, HC3.out]))
                all_goals (go_meet; case rel => exact ⟨by unfold legB; simp [HC0.out, HC1.out, HC2.out, HC3.out], HX.out⟩)
              · have HC3 := Lib.hid hc3; clear hc3
                cases hc4 : timeB f.leave
                · have HC4 := Lib.hid hc4; clear hc4
                  go_wp2_with (first | (go_at_call 48; refine (placed_any _ _ _).mono ?_; rintro e w1 ⟨rfl, hf1⟩; simp only [HC0.out, HC1.out, HC2.out, HC3.out, HC4.out]; replace HX := Lib.hid (boxNext HX.out hf1); clear hf1 c0 c1 c2 c3 c4 c5 c6 c7; (have c0 : w1.cell? ⟨b4, 0, none⟩ = some (.int .i64 f.fx) := HX.out.1.cell 0; have c1 : w1.cell? ⟨b4, 1, none⟩ = some (.int .i64 f.fy) := HX.out.1.cell 1; have c2 : w1.cell? ⟨b4, 2, none⟩ = some (.int .i64 f.tx) := HX.out.1.cell 2; have c3 : w1.cell? ⟨b4, 3, none⟩ = some (.int .i64 f.ty) := HX.out.1.cell 3; have c4 : w1.cell? ⟨b4, 4, none⟩ = some (.int .i64 f.start) := HX.out.1.cell 4; have c5 : w1.cell? ⟨b4, 5, none⟩ = some (.int .i64 f.arrive) := HX.out.1.cell 5; have c6 : w1.cell? ⟨b4, 6, none⟩ = some (.int .i64 f.leave) := HX.out.1.cell 6; have c7 : w1.cell? ⟨b4, 7, none⟩ = some (.int .i64 f.fuel) := HX.out.1.cell 7)) | (go_at_call 52; refine (timed_any _ _).mono ?_; rintro e w' ⟨rfl, rfl⟩; simp only [HC0.out, HC1.out, HC2.out, HC3.out, HC4.out]) | (go_at_call 55; refine (within_any _ _ _ _).mono ?_; rintro e w' ⟨rfl, rfl⟩; simp only [HC0.out, HC1.out, HC2.out, HC3.out, HC4.out]))
                  all_goals (go_meet; case rel => exact ⟨by unfold legB; simp [HC0.out, HC1.out, HC2.out, HC3.out, HC4.out], HX.out⟩)
                · have HC4 := Lib.hid hc4; clear hc4
                  by_cases h5 : f.arrive < f.start
                  · skip
                    have h5' : ¬ f.start ≤ f.arrive := by omega
                    go_wp2_with (first | (go_at_call 48; refine (placed_any _ _ _).mono ?_; rintro e w1 ⟨rfl, hf1⟩; simp only [HC0.out, HC1.out, HC2.out, HC3.out, HC4.out]; replace HX := Lib.hid (boxNext HX.out hf1); clear hf1 c0 c1 c2 c3 c4 c5 c6 c7; (have c0 : w1.cell? ⟨b4, 0, none⟩ = some (.int .i64 f.fx) := HX.out.1.cell 0; have c1 : w1.cell? ⟨b4, 1, none⟩ = some (.int .i64 f.fy) := HX.out.1.cell 1; have c2 : w1.cell? ⟨b4, 2, none⟩ = some (.int .i64 f.tx) := HX.out.1.cell 2; have c3 : w1.cell? ⟨b4, 3, none⟩ = some (.int .i64 f.ty) := HX.out.1.cell 3; have c4 : w1.cell? ⟨b4, 4, none⟩ = some (.int .i64 f.start) := HX.out.1.cell 4; have c5 : w1.cell? ⟨b4, 5, none⟩ = some (.int .i64 f.arrive) := HX.out.1.cell 5; have c6 : w1.cell? ⟨b4, 6, none⟩ = some (.int .i64 f.leave) := HX.out.1.cell 6; have c7 : w1.cell? ⟨b4, 7, none⟩ = some (.int .i64 f.fuel) := HX.out.1.cell 7)) | (go_at_call 52; refine (timed_any _ _).mono ?_; rintro e w' ⟨rfl, rfl⟩; simp only [HC0.out, HC1.out, HC2.out, HC3.out, HC4.out]) | (go_at_call 55; refine (within_any _ _ _ _).mono ?_; rintro e w' ⟨rfl, rfl⟩; simp only [HC0.out, HC1.out, HC2.out, HC3.out, HC4.out]))
                    all_goals (go_meet; case rel => exact ⟨by unfold legB; simp [HC0.out, HC1.out, HC2.out, HC3.out, HC4.out, h5'], HX.out⟩)
                  · skip
                    have h5' : f.start ≤ f.arrive := by omega
                    by_cases h6 : f.leave < f.arrive
                    · skip
                      have h6' : ¬ f.arrive ≤ f.leave := by omega
                      go_wp2_with (first | (go_at_call 48; refine (placed_any _ _ _).mono ?_; rintro e w1 ⟨rfl, hf1⟩; simp only [HC0.out, HC1.out, HC2.out, HC3.out, HC4.out]; replace HX := Lib.hid (boxNext HX.out hf1); clear hf1 c0 c1 c2 c3 c4 c5 c6 c7; (have c0 : w1.cell? ⟨b4, 0, none⟩ = some (.int .i64 f.fx) := HX.out.1.cell 0; have c1 : w1.cell? ⟨b4, 1, none⟩ = some (.int .i64 f.fy) := HX.out.1.cell 1; have c2 : w1.cell? ⟨b4, 2, none⟩ = some (.int .i64 f.tx) := HX.out.1.cell 2; have c3 : w1.cell? ⟨b4, 3, none⟩ = some (.int .i64 f.ty) := HX.out.1.cell 3; have c4 : w1.cell? ⟨b4, 4, none⟩ = some (.int .i64 f.start) := HX.out.1.cell 4; have c5 : w1.cell? ⟨b4, 5, none⟩ = some (.int .i64 f.arrive) := HX.out.1.cell 5; have c6 : w1.cell? ⟨b4, 6, none⟩ = some (.int .i64 f.leave) := HX.out.1.cell 6; have c7 : w1.cell? ⟨b4, 7, none⟩ = some (.int .i64 f.fuel) := HX.out.1.cell 7)) | (go_at_call 52; refine (timed_any _ _).mono ?_; rintro e w' ⟨rfl, rfl⟩; simp only [HC0.out, HC1.out, HC2.out, HC3.out, HC4.out]) | (go_at_call 55; refine (within_any _ _ _ _).mono ?_; rintro e w' ⟨rfl, rfl⟩; simp only [HC0.out, HC1.out, HC2.out, HC3.out, HC4.out]))
                      all_goals (go_meet; case rel => exact ⟨by unfold legB; simp [HC0.out, HC1.out, HC2.out, HC3.out, HC4.out, h5', h6'], HX.out⟩)
                    · skip
                      have h6' : f.arrive ≤ f.leave := by omega
                      by_cases h7 : f.start = f.arrive
                      · skip
                        by_cases h8 : f.fx = f.tx
                        · skip
                          by_cases h9 : f.fy = f.ty
                          · skip
                            cases hc9 : inB f.fuel 0 1073741824
                            · have HC9 := Lib.hid hc9; clear hc9
                              go_wp2_with (first | (go_at_call 48; refine (placed_any _ _ _).mono ?_; rintro e w1 ⟨rfl, hf1⟩; simp only [HC0.out, HC1.out, HC2.out, HC3.out, HC4.out, HC9.out]; replace HX := Lib.hid (boxNext HX.out hf1); clear hf1 c0 c1 c2 c3 c4 c5 c6 c7; (have c0 : w1.cell? ⟨b4, 0, none⟩ = some (.int .i64 f.fx) := HX.out.1.cell 0; have c1 : w1.cell? ⟨b4, 1, none⟩ = some (.int .i64 f.fy) := HX.out.1.cell 1; have c2 : w1.cell? ⟨b4, 2, none⟩ = some (.int .i64 f.tx) := HX.out.1.cell 2; have c3 : w1.cell? ⟨b4, 3, none⟩ = some (.int .i64 f.ty) := HX.out.1.cell 3; have c4 : w1.cell? ⟨b4, 4, none⟩ = some (.int .i64 f.start) := HX.out.1.cell 4; have c5 : w1.cell? ⟨b4, 5, none⟩ = some (.int .i64 f.arrive) := HX.out.1.cell 5; have c6 : w1.cell? ⟨b4, 6, none⟩ = some (.int .i64 f.leave) := HX.out.1.cell 6; have c7 : w1.cell? ⟨b4, 7, none⟩ = some (.int .i64 f.fuel) := HX.out.1.cell 7)) | (go_at_call 52; refine (timed_any _ _).mono ?_; rintro e w' ⟨rfl, rfl⟩; simp only [HC0.out, HC1.out, HC2.out, HC3.out, HC4.out, HC9.out]) | (go_at_call 55; refine (within_any _ _ _ _).mono ?_; rintro e w' ⟨rfl, rfl⟩; simp only [HC0.out, HC1.out, HC2.out, HC3.out, HC4.out, HC9.out]))
                              all_goals (go_meet; case rel => exact ⟨by unfold legB; simp [HC0.out, HC1.out, HC2.out, HC3.out, HC4.out, HC9.out, h5', h6', h7, h8, h9], HX.out⟩)
                            · have HC9 := Lib.hid hc9; clear hc9
                              go_wp2_with (first | (go_at_call 48; refine (placed_any _ _ _).mono ?_; rintro e w1 ⟨rfl, hf1⟩; simp only [HC0.out, HC1.out, HC2.out, HC3.out, HC4.out, HC9.out]; replace HX := Lib.hid (boxNext HX.out hf1); clear hf1 c0 c1 c2 c3 c4 c5 c6 c7; (have c0 : w1.cell? ⟨b4, 0, none⟩ = some (.int .i64 f.fx) := HX.out.1.cell 0; have c1 : w1.cell? ⟨b4, 1, none⟩ = some (.int .i64 f.fy) := HX.out.1.cell 1; have c2 : w1.cell? ⟨b4, 2, none⟩ = some (.int .i64 f.tx) := HX.out.1.cell 2; have c3 : w1.cell? ⟨b4, 3, none⟩ = some (.int .i64 f.ty) := HX.out.1.cell 3; have c4 : w1.cell? ⟨b4, 4, none⟩ = some (.int .i64 f.start) := HX.out.1.cell 4; have c5 : w1.cell? ⟨b4, 5, none⟩ = some (.int .i64 f.arrive) := HX.out.1.cell 5; have c6 : w1.cell? ⟨b4, 6, none⟩ = some (.int .i64 f.leave) := HX.out.1.cell 6; have c7 : w1.cell? ⟨b4, 7, none⟩ = some (.int .i64 f.fuel) := HX.out.1.cell 7)) | (go_at_call 52; refine (timed_any _ _).mono ?_; rintro e w' ⟨rfl, rfl⟩; simp only [HC0.out, HC1.out, HC2.out, HC3.out, HC4.out, HC9.out]) | (go_at_call 55; refine (within_any _ _ _ _).mono ?_; rintro e w' ⟨rfl, rfl⟩; simp only [HC0.out, HC1.out, HC2.out, HC3.out, HC4.out, HC9.out]))
                              all_goals (go_meet; case rel => exact ⟨by unfold legB; simp [HC0.out, HC1.out, HC2.out, HC3.out, HC4.out, HC9.out, h5', h6', h7, h8, h9], HX.out⟩)
                          · skip
                            go_wp2_with (first | (go_at_call 48; refine (placed_any _ _ _).mono ?_; rintro e w1 ⟨rfl, hf1⟩; simp only [HC0.out, HC1.out, HC2.out, HC3.out, HC4.out]; replace HX := Lib.hid (boxNext HX.out hf1); clear hf1 c0 c1 c2 c3 c4 c5 c6 c7; (have c0 : w1.cell? ⟨b4, 0, none⟩ = some (.int .i64 f.fx) := HX.out.1.cell 0; have c1 : w1.cell? ⟨b4, 1, none⟩ = some (.int .i64 f.fy) := HX.out.1.cell 1; have c2 : w1.cell? ⟨b4, 2, none⟩ = some (.int .i64 f.tx) := HX.out.1.cell 2; have c3 : w1.cell? ⟨b4, 3, none⟩ = some (.int .i64 f.ty) := HX.out.1.cell 3; have c4 : w1.cell? ⟨b4, 4, none⟩ = some (.int .i64 f.start) := HX.out.1.cell 4; have c5 : w1.cell? ⟨b4, 5, none⟩ = some (.int .i64 f.arrive) := HX.out.1.cell 5; have c6 : w1.cell? ⟨b4, 6, none⟩ = some (.int .i64 f.leave) := HX.out.1.cell 6; have c7 : w1.cell? ⟨b4, 7, none⟩ = some (.int .i64 f.fuel) := HX.out.1.cell 7)) | (go_at_call 52; refine (timed_any _ _).mono ?_; rintro e w' ⟨rfl, rfl⟩; simp only [HC0.out, HC1.out, HC2.out, HC3.out, HC4.out]) | (go_at_call 55; refine (within_any _ _ _ _).mono ?_; rintro e w' ⟨rfl, rfl⟩; simp only [HC0.out, HC1.out, HC2.out, HC3.out, HC4.out]))
                            all_goals (go_meet; case rel => exact ⟨by unfold legB; simp [HC0.out, HC1.out, HC2.out, HC3.out, HC4.out, h5', h6', h7, h8, h9], HX.out⟩)
                        · skip
                          go_wp2_with (first | (go_at_call 48; refine (placed_any _ _ _).mono ?_; rintro e w1 ⟨rfl, hf1⟩; simp only [HC0.out, HC1.out, HC2.out, HC3.out, HC4.out]; replace HX := Lib.hid (boxNext HX.out hf1); clear hf1 c0 c1 c2 c3 c4 c5 c6 c7; (have c0 : w1.cell? ⟨b4, 0, none⟩ = some (.int .i64 f.fx) := HX.out.1.cell 0; have c1 : w1.cell? ⟨b4, 1, none⟩ = some (.int .i64 f.fy) := HX.out.1.cell 1; have c2 : w1.cell? ⟨b4, 2, none⟩ = some (.int .i64 f.tx) := HX.out.1.cell 2; have c3 : w1.cell? ⟨b4, 3, none⟩ = some (.int .i64 f.ty) := HX.out.1.cell 3; have c4 : w1.cell? ⟨b4, 4, none⟩ = some (.int .i64 f.start) := HX.out.1.cell 4; have c5 : w1.cell? ⟨b4, 5, none⟩ = some (.int .i64 f.arrive) := HX.out.1.cell 5; have c6 : w1.cell? ⟨b4, 6, none⟩ = some (.int .i64 f.leave) := HX.out.1.cell 6; have c7 : w1.cell? ⟨b4, 7, none⟩ = some (.int .i64 f.fuel) := HX.out.1.cell 7)) | (go_at_call 52; refine (timed_any _ _).mono ?_; rintro e w' ⟨rfl, rfl⟩; simp only [HC0.out, HC1.out, HC2.out, HC3.out, HC4.out]) | (go_at_call 55; refine (within_any _ _ _ _).mono ?_; rintro e w' ⟨rfl, rfl⟩; simp only [HC0.out, HC1.out, HC2.out, HC3.out, HC4.out]))
                          all_goals (go_meet; case rel => exact ⟨by unfold legB; simp [HC0.out, HC1.out, HC2.out, HC3.out, HC4.out, h5', h6', h7, h8], HX.out⟩)
                      · skip
                        cases hc9 : inB f.fuel 0 1073741824
                        · have HC9 := Lib.hid hc9; clear hc9
                          go_wp2_with (first | (go_at_call 48; refine (placed_any _ _ _).mono ?_; rintro e w1 ⟨rfl, hf1⟩; simp only [HC0.out, HC1.out, HC2.out, HC3.out, HC4.out, HC9.out]; replace HX := Lib.hid (boxNext HX.out hf1); clear hf1 c0 c1 c2 c3 c4 c5 c6 c7; (have c0 : w1.cell? ⟨b4, 0, none⟩ = some (.int .i64 f.fx) := HX.out.1.cell 0; have c1 : w1.cell? ⟨b4, 1, none⟩ = some (.int .i64 f.fy) := HX.out.1.cell 1; have c2 : w1.cell? ⟨b4, 2, none⟩ = some (.int .i64 f.tx) := HX.out.1.cell 2; have c3 : w1.cell? ⟨b4, 3, none⟩ = some (.int .i64 f.ty) := HX.out.1.cell 3; have c4 : w1.cell? ⟨b4, 4, none⟩ = some (.int .i64 f.start) := HX.out.1.cell 4; have c5 : w1.cell? ⟨b4, 5, none⟩ = some (.int .i64 f.arrive) := HX.out.1.cell 5; have c6 : w1.cell? ⟨b4, 6, none⟩ = some (.int .i64 f.leave) := HX.out.1.cell 6; have c7 : w1.cell? ⟨b4, 7, none⟩ = some (.int .i64 f.fuel) := HX.out.1.cell 7)) | (go_at_call 52; refine (timed_any _ _).mono ?_; rintro e w' ⟨rfl, rfl⟩; simp only [HC0.out, HC1.out, HC2.out, HC3.out, HC4.out, HC9.out]) | (go_at_call 55; refine (within_any _ _ _ _).mono ?_; rintro e w' ⟨rfl, rfl⟩; simp only [HC0.out, HC1.out, HC2.out, HC3.out, HC4.out, HC9.out]))
                          all_goals (go_meet; case rel => exact ⟨by unfold legB; simp [HC0.out, HC1.out, HC2.out, HC3.out, HC4.out, HC9.out, h5', h6', h7], HX.out⟩)
                        · have HC9 := Lib.hid hc9; clear hc9
                          go_wp2_with (first | (go_at_call 48; refine (placed_any _ _ _).mono ?_; rintro e w1 ⟨rfl, hf1⟩; simp only [HC0.out, HC1.out, HC2.out, HC3.out, HC4.out, HC9.out]; replace HX := Lib.hid (boxNext HX.out hf1); clear hf1 c0 c1 c2 c3 c4 c5 c6 c7; (have c0 : w1.cell? ⟨b4, 0, none⟩ = some (.int .i64 f.fx) := HX.out.1.cell 0; have c1 : w1.cell? ⟨b4, 1, none⟩ = some (.int .i64 f.fy) := HX.out.1.cell 1; have c2 : w1.cell? ⟨b4, 2, none⟩ = some (.int .i64 f.tx) := HX.out.1.cell 2; have c3 : w1.cell? ⟨b4, 3, none⟩ = some (.int .i64 f.ty) := HX.out.1.cell 3; have c4 : w1.cell? ⟨b4, 4, none⟩ = some (.int .i64 f.start) := HX.out.1.cell 4; have c5 : w1.cell? ⟨b4, 5, none⟩ = some (.int .i64 f.arrive) := HX.out.1.cell 5; have c6 : w1.cell? ⟨b4, 6, none⟩ = some (.int .i64 f.leave) := HX.out.1.cell 6; have c7 : w1.cell? ⟨b4, 7, none⟩ = some (.int .i64 f.fuel) := HX.out.1.cell 7)) | (go_at_call 52; refine (timed_any _ _).mono ?_; rintro e w' ⟨rfl, rfl⟩; simp only [HC0.out, HC1.out, HC2.out, HC3.out, HC4.out, HC9.out]) | (go_at_call 55; refine (within_any _ _ _ _).mono ?_; rintro e w' ⟨rfl, rfl⟩; simp only [HC0.out, HC1.out, HC2.out, HC3.out, HC4.out, HC9.out]))
                          all_goals (go_meet; case rel => exact ⟨by unfold legB; simp [HC0.out, HC1.out, HC2.out, HC3.out, HC4.out, HC9.out, h5', h6', h7], HX.out⟩)
      obtain ⟨rfl, hx2⟩ := hcut
      clear HX
      have HX := Lib.hid hx2
      clear hx2
      cases hlb : legB f
      · have HLB := Lib.hid hlb
        clear hlb
        go_wp2_with fail
        go_ret
        have : legsB n L = false := by
          rw [← Bool.not_eq_true]
          intro h
          unfold legsB at h
          simp only [Bool.and_eq_true, List.all_eq_true, List.mem_range] at h
          have := (h.2 j hjl).1
          rw [← HFF.out, HLB.out] at this
          cases this
        exact ⟨by rw [this]; rfl, HX.out.2⟩
      · have HLB := Lib.hid hlb
        clear hlb
        go_upto_region 6 with fail
        go_cut [97] from 74 to 97 (fun s97 w' => s97 = .bool (decide (0 < j) && !joinB (L (j - 1)) f) ∧ (Blk w' b4 49 f.cells ∧ Frm w.heap.size [] w w'))
        case first =>
          have hrc := HR.out.frm HX.out.2 (Nat.le_refl _)
          have h3 := HX.out.1
          rcases j with _ | m
          · have hfx : ∀ V, Frm wc.heap.size [] wc V → True := fun _ _ => trivial
            have HFX := Lib.hid hfx
            clear hfx
            refine wp_region_leftL (fun V => Frm wc.heap.size [] wc V) 1000 (by kernel_rfl) ?_
            have hS : Frm wc.heap.size [] wc wc.drew := (Frm.refl _ _ wc).drew
            have HS := Lib.hid hS
            clear hS
            refine LeftL.run (v := ?_) 0 rfl (by kernel_rfl) rfl (fun _ _ d _ _ h => by cases d <;> exact h) ?_ HS.out ?_; rotate_left; (· intro V hV; obtain q0 := HFX.out V hV; clear hV; go_simp; rfl); (intro K' hK'; go_simp; refine hK' _ ?_; clear hK' K')
            refine LeftL.run (v := ?_) 1 rfl (by kernel_rfl) rfl (fun _ _ d _ _ h => by cases d <;> exact h) ?_ HS.out ?_; rotate_left; (· intro V hV; obtain q0 := HFX.out V hV; clear hV; go_simp; rfl); (intro K' hK'; go_simp; refine hK' _ ?_; clear hK' K')
            refine LeftL.run (v := ?_) 2 rfl (by kernel_rfl) rfl (fun _ _ d _ _ h => by cases d <;> exact h) ?_ HS.out ?_; rotate_left; (· intro V hV; obtain q0 := HFX.out V hV; clear hV; go_simp; rfl); (intro K' hK'; go_simp; refine hK' _ ?_; clear hK' K')
            refine LeftL.take (v := undef) 3 rfl (by kernel_rfl) (fun _ _ d _ _ h => by cases d <;> exact h) (.inr ⟨rfl, rfl⟩) HS.out ?_; (intro K' hK'; go_simp; refine hK' _ ?_; clear hK' K')
            refine LeftL.take (v := undef) 4 rfl (by kernel_rfl) (fun _ _ d _ _ h => by cases d <;> exact h) (.inr ⟨rfl, rfl⟩) HS.out ?_; (intro K' hK'; go_simp; refine hK' _ ?_; clear hK' K')
            refine LeftL.take (v := undef) 5 rfl (by kernel_rfl) (fun _ _ d _ _ h => by cases d <;> exact h) (.inr ⟨rfl, rfl⟩) HS.out ?_; (intro K' hK'; go_simp; refine hK' _ ?_; clear hK' K')
            refine LeftL.take (v := undef) 6 rfl (by kernel_rfl) (fun _ _ d _ _ h => by cases d <;> exact h) (.inr ⟨rfl, rfl⟩) HS.out ?_; (intro K' hK'; go_simp; refine hK' _ ?_; clear hK' K')
            refine LeftL.take (v := undef) 7 rfl (by kernel_rfl) (fun _ _ d _ _ h => by cases d <;> exact h) (.inr ⟨rfl, rfl⟩) HS.out ?_; (intro K' hK'; go_simp; refine hK' _ ?_; clear hK' K')
            refine LeftL.take (v := undef) 8 rfl (by kernel_rfl) (fun _ _ d _ _ h => by cases d <;> exact h) (.inr ⟨rfl, rfl⟩) HS.out ?_; (intro K' hK'; go_simp; refine hK' _ ?_; clear hK' K')
            refine LeftL.take (v := undef) 9 rfl (by kernel_rfl) (fun _ _ d _ _ h => by cases d <;> exact h) (.inr ⟨rfl, rfl⟩) HS.out ?_; (intro K' hK'; go_simp; refine hK' _ ?_; clear hK' K')
            refine LeftL.take (v := undef) 10 rfl (by kernel_rfl) (fun _ _ d _ _ h => by cases d <;> exact h) (.inr ⟨rfl, rfl⟩) HS.out ?_; (intro K' hK'; go_simp; refine hK' _ ?_; clear hK' K')
            refine LeftL.take (v := undef) 11 rfl (by kernel_rfl) (fun _ _ d _ _ h => by cases d <;> exact h) (.inr ⟨rfl, rfl⟩) HS.out ?_; (intro K' hK'; go_simp; refine hK' _ ?_; clear hK' K')
            refine LeftL.take (v := undef) 12 rfl (by kernel_rfl) (fun _ _ d _ _ h => by cases d <;> exact h) (.inr ⟨rfl, rfl⟩) HS.out ?_; (intro K' hK'; go_simp; refine hK' _ ?_; clear hK' K')
            refine LeftL.take (v := undef) 13 rfl (by kernel_rfl) (fun _ _ d _ _ h => by cases d <;> exact h) (.inr ⟨rfl, rfl⟩) HS.out ?_; (intro K' hK'; go_simp; refine hK' _ ?_; clear hK' K')
            refine LeftL.take (v := undef) 14 rfl (by kernel_rfl) (fun _ _ d _ _ h => by cases d <;> exact h) (.inr ⟨rfl, rfl⟩) HS.out ?_; (intro K' hK'; go_simp; refine hK' _ ?_; clear hK' K')
            refine LeftL.take (v := undef) 15 rfl (by kernel_rfl) (fun _ _ d _ _ h => by cases d <;> exact h) (.inr ⟨rfl, rfl⟩) HS.out ?_; (intro K' hK'; go_simp; refine hK' _ ?_; clear hK' K')
            refine LeftL.take (v := undef) 16 rfl (by kernel_rfl) (fun _ _ d _ _ h => by cases d <;> exact h) (.inr ⟨rfl, rfl⟩) HS.out ?_; (intro K' hK'; go_simp; refine hK' _ ?_; clear hK' K')
            refine LeftL.take (v := undef) 17 rfl (by kernel_rfl) (fun _ _ d _ _ h => by cases d <;> exact h) (.inr ⟨rfl, rfl⟩) HS.out ?_; (intro K' hK'; go_simp; refine hK' _ ?_; clear hK' K')
            refine LeftL.take (v := undef) 18 rfl (by kernel_rfl) (fun _ _ d _ _ h => by cases d <;> exact h) (.inr ⟨rfl, rfl⟩) HS.out ?_; (intro K' hK'; go_simp; refine hK' _ ?_; clear hK' K')
            refine LeftL.take (v := undef) 19 rfl (by kernel_rfl) (fun _ _ d _ _ h => by cases d <;> exact h) (.inr ⟨rfl, rfl⟩) HS.out ?_; (intro K' hK'; go_simp; refine hK' _ ?_; clear hK' K')
            refine LeftL.take (v := undef) 20 rfl (by kernel_rfl) (fun _ _ d _ _ h => by cases d <;> exact h) (.inr ⟨rfl, rfl⟩) HS.out ?_; (intro K' hK'; go_simp; refine hK' _ ?_; clear hK' K')
            refine LeftL.take (v := undef) 21 rfl (by kernel_rfl) (fun _ _ d _ _ h => by cases d <;> exact h) (.inr ⟨rfl, rfl⟩) HS.out ?_; (intro K' hK'; go_simp; refine hK' _ ?_; clear hK' K')
            refine LeftL.take (v := undef) 22 rfl (by kernel_rfl) (fun _ _ d _ _ h => by cases d <;> exact h) (.inr ⟨rfl, rfl⟩) HS.out ?_; (intro K' hK'; go_simp; refine hK' _ ?_; clear hK' K')
            refine LeftL.run (v := ?_) 23 rfl (by kernel_rfl) rfl (fun _ _ d _ _ h => by cases d <;> exact h) ?_ HS.out ?_; rotate_left; (· intro V hV; obtain q0 := HFX.out V hV; clear hV; go_simp; rfl); (intro K' hK'; go_simp; refine hK' _ ?_; clear hK' K')
            refine LeftL.done (by kernel_rfl) ?_
            go_wp2_with fail
            go_meet
            case rel => exact ⟨by simp, HS.out.blk HX.out.1 HX.out.1.lt (by simp), HX.out.2.call HS.out HX.out.2.size (by simp)⟩
          · obtain ⟨p, hp⟩ : ∃ p, p = L m := ⟨_, rfl⟩
            have hfx : ∀ V, Frm wc.heap.size [] wc V → V.cell? ⟨b4, 0, none⟩ = some (.int .i64 f.fx) ∧ V.cell? ⟨b4, 1, none⟩ = some (.int .i64 f.fy) ∧ V.cell? ⟨b4, 4, none⟩ = some (.int .i64 f.start) ∧ V.cell? ⟨b, off + m * 8 + 2, none⟩ = some (.int .i64 p.tx) ∧ V.cell? ⟨b, off + m * 8 + 3, none⟩ = some (.int .i64 p.ty) ∧ V.cell? ⟨b, off + m * 8 + 6, none⟩ = some (.int .i64 p.leave) := fun V hV => by
              have hb' := hV.blk h3 h3.lt (by simp)
              have hr' := hrc.frm hV (Nat.le_refl _)
              rw [hp]
              exact ⟨hb'.cell 0, hb'.cell 1, hb'.cell 4, hr'.at_ m (by omega) 2 _ rfl, hr'.at_ m (by omega) 3 _ rfl, hr'.at_ m (by omega) 6 _ rfl⟩
            have hwm : IntKind.i64.wrap ((m : Nat) : Int) = (m : Int) := IntWalk.i64_in _ (by have : n ≤ 9223372036854775807 := hlen; omega)
            have hm0 : (0 : Int) ≤ (m : Int) := by omega
            have hmn : (m : Int) < (n : Int) := by omega
            have hjb : (decide (0 < m + 1) && !joinB (L (m + 1 - 1)) f) = !joinB p f := by rw [hp]; simp
            have HFX := Lib.hid hfx
            have HPP := Lib.hid hp
            have HRC := Lib.hid hrc
            have H3 := Lib.hid h3
            have HJB := Lib.hid hjb
            clear hjb h3 hrc hp hfx
            by_cases he1 : f.fx = p.tx
            · by_cases he2 : f.fy = p.ty
              · by_cases he3 : f.start = p.leave
                · skip
                  refine wp_region_leftL (fun V => Frm wc.heap.size [] wc V) 1000 (by kernel_rfl) ?_
                  have hS : Frm wc.heap.size [] wc wc.drew := (Frm.refl _ _ wc).drew
                  have HS := Lib.hid hS
                  clear hS
                  refine LeftL.run (v := ?_) 0 rfl (by kernel_rfl) rfl (fun _ _ d _ _ h => by cases d <;> exact h) ?_ HS.out ?_; rotate_left; (· intro V hV; obtain ⟨q0, q1, q2, q3, q4, q5⟩ := HFX.out V hV; clear hV; go_simp; rfl); (intro K' hK'; go_simp; refine hK' _ ?_; clear hK' K')
                  refine LeftL.run (v := ?_) 1 rfl (by kernel_rfl) rfl (fun _ _ d _ _ h => by cases d <;> exact h) ?_ HS.out ?_; rotate_left; (· intro V hV; obtain ⟨q0, q1, q2, q3, q4, q5⟩ := HFX.out V hV; clear hV; go_simp; rfl); (intro K' hK'; go_simp; refine hK' _ ?_; clear hK' K')
                  refine LeftL.run (v := ?_) 2 rfl (by kernel_rfl) rfl (fun _ _ d _ _ h => by cases d <;> exact h) ?_ HS.out ?_; rotate_left; (· intro V hV; obtain ⟨q0, q1, q2, q3, q4, q5⟩ := HFX.out V hV; clear hV; go_simp; rfl); (intro K' hK'; go_simp; refine hK' _ ?_; clear hK' K')
                  refine LeftL.runG (v := ?_) 3 rfl (by kernel_rfl) rfl (fun _ _ d _ _ h => by cases d <;> exact h) ?_ HS.out ?_; rotate_left; (· intro V hV; obtain ⟨q0, q1, q2, q3, q4, q5⟩ := HFX.out V hV; clear hV; go_simp; rfl); (intro K' hK'; go_simp; refine hK' _ ?_; clear hK' K')
                  refine LeftL.runG (v := ?_) 4 rfl (by kernel_rfl) rfl (fun _ _ d _ _ h => by cases d <;> exact h) ?_ HS.out ?_; rotate_left; (· intro V hV; obtain ⟨q0, q1, q2, q3, q4, q5⟩ := HFX.out V hV; clear hV; go_simp; rfl); (intro K' hK'; go_simp; refine hK' _ ?_; clear hK' K')
                  refine LeftL.runG (v := ?_) 5 rfl (by kernel_rfl) rfl (fun _ _ d _ _ h => by cases d <;> exact h) ?_ HS.out ?_; rotate_left; (· intro V hV; obtain ⟨q0, q1, q2, q3, q4, q5⟩ := HFX.out V hV; clear hV; go_simp; rfl); (intro K' hK'; go_simp; refine hK' _ ?_; clear hK' K')
                  refine LeftL.runG (v := ?_) 6 rfl (by kernel_rfl) rfl (fun _ _ d _ _ h => by cases d <;> exact h) ?_ HS.out ?_; rotate_left; (· intro V hV; obtain ⟨q0, q1, q2, q3, q4, q5⟩ := HFX.out V hV; clear hV; go_simp; rfl); (intro K' hK'; go_simp; refine hK' _ ?_; clear hK' K')
                  refine LeftL.runG (v := ?_) 7 rfl (by kernel_rfl) rfl (fun _ _ d _ _ h => by cases d <;> exact h) ?_ HS.out ?_; rotate_left; (· intro V hV; obtain ⟨q0, q1, q2, q3, q4, q5⟩ := HFX.out V hV; clear hV; go_simp; rfl); (intro K' hK'; go_simp; refine hK' _ ?_; clear hK' K')
                  refine LeftL.runG (v := ?_) 8 rfl (by kernel_rfl) rfl (fun _ _ d _ _ h => by cases d <;> exact h) ?_ HS.out ?_; rotate_left; (· intro V hV; obtain ⟨q0, q1, q2, q3, q4, q5⟩ := HFX.out V hV; clear hV; go_simp; rfl); (intro K' hK'; go_simp; refine hK' _ ?_; clear hK' K')
                  refine LeftL.runG (v := ?_) 9 rfl (by kernel_rfl) rfl (fun _ _ d _ _ h => by cases d <;> exact h) ?_ HS.out ?_; rotate_left; (· intro V hV; obtain ⟨q0, q1, q2, q3, q4, q5⟩ := HFX.out V hV; clear hV; go_simp; rfl); (intro K' hK'; go_simp; refine hK' _ ?_; clear hK' K')
                  refine LeftL.runG (v := ?_) 10 rfl (by kernel_rfl) rfl (fun _ _ d _ _ h => by cases d <;> exact h) ?_ HS.out ?_; rotate_left; (· intro V hV; obtain ⟨q0, q1, q2, q3, q4, q5⟩ := HFX.out V hV; clear hV; go_simp; rfl); (intro K' hK'; go_simp; refine hK' _ ?_; clear hK' K')
                  refine LeftL.runG (v := ?_) 11 rfl (by kernel_rfl) rfl (fun _ _ d _ _ h => by cases d <;> exact h) ?_ HS.out ?_; rotate_left; (· intro V hV; obtain ⟨q0, q1, q2, q3, q4, q5⟩ := HFX.out V hV; clear hV; go_simp; rfl); (intro K' hK'; go_simp; refine hK' _ ?_; clear hK' K')
                  refine LeftL.runG (v := ?_) 12 rfl (by kernel_rfl) rfl (fun _ _ d _ _ h => by cases d <;> exact h) ?_ HS.out ?_; rotate_left; (· intro V hV; obtain ⟨q0, q1, q2, q3, q4, q5⟩ := HFX.out V hV; clear hV; go_simp; rfl); (intro K' hK'; go_simp; refine hK' _ ?_; clear hK' K')
                  refine LeftL.runG (v := ?_) 13 rfl (by kernel_rfl) rfl (fun _ _ d _ _ h => by cases d <;> exact h) ?_ HS.out ?_; rotate_left; (· intro V hV; obtain ⟨q0, q1, q2, q3, q4, q5⟩ := HFX.out V hV; clear hV; go_simp; rfl); (intro K' hK'; go_simp; refine hK' _ ?_; clear hK' K')
                  refine LeftL.runG (v := ?_) 14 rfl (by kernel_rfl) rfl (fun _ _ d _ _ h => by cases d <;> exact h) ?_ HS.out ?_; rotate_left; (· intro V hV; obtain ⟨q0, q1, q2, q3, q4, q5⟩ := HFX.out V hV; clear hV; go_simp; rfl); (intro K' hK'; go_simp; refine hK' _ ?_; clear hK' K')
                  refine LeftL.runG (v := ?_) 15 rfl (by kernel_rfl) rfl (fun _ _ d _ _ h => by cases d <;> exact h) ?_ HS.out ?_; rotate_left; (· intro V hV; obtain ⟨q0, q1, q2, q3, q4, q5⟩ := HFX.out V hV; clear hV; go_simp; rfl); (intro K' hK'; go_simp; refine hK' _ ?_; clear hK' K')
                  refine LeftL.runG (v := ?_) 16 rfl (by kernel_rfl) rfl (fun _ _ d _ _ h => by cases d <;> exact h) ?_ HS.out ?_; rotate_left; (· intro V hV; obtain ⟨q0, q1, q2, q3, q4, q5⟩ := HFX.out V hV; clear hV; go_simp; rfl); (intro K' hK'; go_simp; refine hK' _ ?_; clear hK' K')
                  refine LeftL.runG (v := ?_) 17 rfl (by kernel_rfl) rfl (fun _ _ d _ _ h => by cases d <;> exact h) ?_ HS.out ?_; rotate_left; (· intro V hV; obtain ⟨q0, q1, q2, q3, q4, q5⟩ := HFX.out V hV; clear hV; go_simp; rfl); (intro K' hK'; go_simp; refine hK' _ ?_; clear hK' K')
                  refine LeftL.runG (v := ?_) 18 rfl (by kernel_rfl) rfl (fun _ _ d _ _ h => by cases d <;> exact h) ?_ HS.out ?_; rotate_left; (· intro V hV; obtain ⟨q0, q1, q2, q3, q4, q5⟩ := HFX.out V hV; clear hV; go_simp; rfl); (intro K' hK'; go_simp; refine hK' _ ?_; clear hK' K')
                  refine LeftL.runG (v := ?_) 19 rfl (by kernel_rfl) rfl (fun _ _ d _ _ h => by cases d <;> exact h) ?_ HS.out ?_; rotate_left; (· intro V hV; obtain ⟨q0, q1, q2, q3, q4, q5⟩ := HFX.out V hV; clear hV; go_simp; rfl); (intro K' hK'; go_simp; refine hK' _ ?_; clear hK' K')
                  refine LeftL.runG (v := ?_) 20 rfl (by kernel_rfl) rfl (fun _ _ d _ _ h => by cases d <;> exact h) ?_ HS.out ?_; rotate_left; (· intro V hV; obtain ⟨q0, q1, q2, q3, q4, q5⟩ := HFX.out V hV; clear hV; go_simp; rfl); (intro K' hK'; go_simp; refine hK' _ ?_; clear hK' K')
                  refine LeftL.runG (v := ?_) 21 rfl (by kernel_rfl) rfl (fun _ _ d _ _ h => by cases d <;> exact h) ?_ HS.out ?_; rotate_left; (· intro V hV; obtain ⟨q0, q1, q2, q3, q4, q5⟩ := HFX.out V hV; clear hV; go_simp; rfl); (intro K' hK'; go_simp; refine hK' _ ?_; clear hK' K')
                  refine LeftL.runG (v := ?_) 22 rfl (by kernel_rfl) rfl (fun _ _ d _ _ h => by cases d <;> exact h) ?_ HS.out ?_; rotate_left; (· intro V hV; obtain ⟨q0, q1, q2, q3, q4, q5⟩ := HFX.out V hV; clear hV; go_simp; rfl); (intro K' hK'; go_simp; refine hK' _ ?_; clear hK' K')
                  refine LeftL.run (v := ?_) 23 rfl (by kernel_rfl) rfl (fun _ _ d _ _ h => by cases d <;> exact h) ?_ HS.out ?_; rotate_left; (· intro V hV; obtain ⟨q0, q1, q2, q3, q4, q5⟩ := HFX.out V hV; clear hV; go_simp; rfl); (intro K' hK'; go_simp; refine hK' _ ?_; clear hK' K')
                  refine LeftL.done (by kernel_rfl) ?_
                  go_wp2_with fail
                  go_meet
                  case rel => exact ⟨by rw [HJB.out]; simp [joinB, he1, he2, he3], HS.out.blk H3.out H3.out.lt (by simp), HX.out.2.call HS.out HX.out.2.size (by simp)⟩
                · skip
                  refine wp_region_leftL (fun V => Frm wc.heap.size [] wc V) 1000 (by kernel_rfl) ?_
                  have hS : Frm wc.heap.size [] wc wc.drew := (Frm.refl _ _ wc).drew
                  have HS := Lib.hid hS
                  clear hS
                  refine LeftL.run (v := ?_) 0 rfl (by kernel_rfl) rfl (fun _ _ d _ _ h => by cases d <;> exact h) ?_ HS.out ?_; rotate_left; (· intro V hV; obtain ⟨q0, q1, q2, q3, q4, q5⟩ := HFX.out V hV; clear hV; go_simp; rfl); (intro K' hK'; go_simp; refine hK' _ ?_; clear hK' K')
                  refine LeftL.run (v := ?_) 1 rfl (by kernel_rfl) rfl (fun _ _ d _ _ h => by cases d <;> exact h) ?_ HS.out ?_; rotate_left; (· intro V hV; obtain ⟨q0, q1, q2, q3, q4, q5⟩ := HFX.out V hV; clear hV; go_simp; rfl); (intro K' hK'; go_simp; refine hK' _ ?_; clear hK' K')
                  refine LeftL.run (v := ?_) 2 rfl (by kernel_rfl) rfl (fun _ _ d _ _ h => by cases d <;> exact h) ?_ HS.out ?_; rotate_left; (· intro V hV; obtain ⟨q0, q1, q2, q3, q4, q5⟩ := HFX.out V hV; clear hV; go_simp; rfl); (intro K' hK'; go_simp; refine hK' _ ?_; clear hK' K')
                  refine LeftL.runG (v := ?_) 3 rfl (by kernel_rfl) rfl (fun _ _ d _ _ h => by cases d <;> exact h) ?_ HS.out ?_; rotate_left; (· intro V hV; obtain ⟨q0, q1, q2, q3, q4, q5⟩ := HFX.out V hV; clear hV; go_simp; rfl); (intro K' hK'; go_simp; refine hK' _ ?_; clear hK' K')
                  refine LeftL.runG (v := ?_) 4 rfl (by kernel_rfl) rfl (fun _ _ d _ _ h => by cases d <;> exact h) ?_ HS.out ?_; rotate_left; (· intro V hV; obtain ⟨q0, q1, q2, q3, q4, q5⟩ := HFX.out V hV; clear hV; go_simp; rfl); (intro K' hK'; go_simp; refine hK' _ ?_; clear hK' K')
                  refine LeftL.runG (v := ?_) 5 rfl (by kernel_rfl) rfl (fun _ _ d _ _ h => by cases d <;> exact h) ?_ HS.out ?_; rotate_left; (· intro V hV; obtain ⟨q0, q1, q2, q3, q4, q5⟩ := HFX.out V hV; clear hV; go_simp; rfl); (intro K' hK'; go_simp; refine hK' _ ?_; clear hK' K')
                  refine LeftL.runG (v := ?_) 6 rfl (by kernel_rfl) rfl (fun _ _ d _ _ h => by cases d <;> exact h) ?_ HS.out ?_; rotate_left; (· intro V hV; obtain ⟨q0, q1, q2, q3, q4, q5⟩ := HFX.out V hV; clear hV; go_simp; rfl); (intro K' hK'; go_simp; refine hK' _ ?_; clear hK' K')
                  refine LeftL.runG (v := ?_) 7 rfl (by kernel_rfl) rfl (fun _ _ d _ _ h => by cases d <;> exact h) ?_ HS.out ?_; rotate_left; (· intro V hV; obtain ⟨q0, q1, q2, q3, q4, q5⟩ := HFX.out V hV; clear hV; go_simp; rfl); (intro K' hK'; go_simp; refine hK' _ ?_; clear hK' K')
                  refine LeftL.runG (v := ?_) 8 rfl (by kernel_rfl) rfl (fun _ _ d _ _ h => by cases d <;> exact h) ?_ HS.out ?_; rotate_left; (· intro V hV; obtain ⟨q0, q1, q2, q3, q4, q5⟩ := HFX.out V hV; clear hV; go_simp; rfl); (intro K' hK'; go_simp; refine hK' _ ?_; clear hK' K')
                  refine LeftL.runG (v := ?_) 9 rfl (by kernel_rfl) rfl (fun _ _ d _ _ h => by cases d <;> exact h) ?_ HS.out ?_; rotate_left; (· intro V hV; obtain ⟨q0, q1, q2, q3, q4, q5⟩ := HFX.out V hV; clear hV; go_simp; rfl); (intro K' hK'; go_simp; refine hK' _ ?_; clear hK' K')
                  refine LeftL.runG (v := ?_) 10 rfl (by kernel_rfl) rfl (fun _ _ d _ _ h => by cases d <;> exact h) ?_ HS.out ?_; rotate_left; (· intro V hV; obtain ⟨q0, q1, q2, q3, q4, q5⟩ := HFX.out V hV; clear hV; go_simp; rfl); (intro K' hK'; go_simp; refine hK' _ ?_; clear hK' K')
                  refine LeftL.runG (v := ?_) 11 rfl (by kernel_rfl) rfl (fun _ _ d _ _ h => by cases d <;> exact h) ?_ HS.out ?_; rotate_left; (· intro V hV; obtain ⟨q0, q1, q2, q3, q4, q5⟩ := HFX.out V hV; clear hV; go_simp; rfl); (intro K' hK'; go_simp; refine hK' _ ?_; clear hK' K')
                  refine LeftL.runG (v := ?_) 12 rfl (by kernel_rfl) rfl (fun _ _ d _ _ h => by cases d <;> exact h) ?_ HS.out ?_; rotate_left; (· intro V hV; obtain ⟨q0, q1, q2, q3, q4, q5⟩ := HFX.out V hV; clear hV; go_simp; rfl); (intro K' hK'; go_simp; refine hK' _ ?_; clear hK' K')
                  refine LeftL.runG (v := ?_) 13 rfl (by kernel_rfl) rfl (fun _ _ d _ _ h => by cases d <;> exact h) ?_ HS.out ?_; rotate_left; (· intro V hV; obtain ⟨q0, q1, q2, q3, q4, q5⟩ := HFX.out V hV; clear hV; go_simp; rfl); (intro K' hK'; go_simp; refine hK' _ ?_; clear hK' K')
                  refine LeftL.runG (v := ?_) 14 rfl (by kernel_rfl) rfl (fun _ _ d _ _ h => by cases d <;> exact h) ?_ HS.out ?_; rotate_left; (· intro V hV; obtain ⟨q0, q1, q2, q3, q4, q5⟩ := HFX.out V hV; clear hV; go_simp; rfl); (intro K' hK'; go_simp; refine hK' _ ?_; clear hK' K')
                  refine LeftL.runG (v := ?_) 15 rfl (by kernel_rfl) rfl (fun _ _ d _ _ h => by cases d <;> exact h) ?_ HS.out ?_; rotate_left; (· intro V hV; obtain ⟨q0, q1, q2, q3, q4, q5⟩ := HFX.out V hV; clear hV; go_simp; rfl); (intro K' hK'; go_simp; refine hK' _ ?_; clear hK' K')
                  refine LeftL.runG (v := ?_) 16 rfl (by kernel_rfl) rfl (fun _ _ d _ _ h => by cases d <;> exact h) ?_ HS.out ?_; rotate_left; (· intro V hV; obtain ⟨q0, q1, q2, q3, q4, q5⟩ := HFX.out V hV; clear hV; go_simp; rfl); (intro K' hK'; go_simp; refine hK' _ ?_; clear hK' K')
                  refine LeftL.runG (v := ?_) 17 rfl (by kernel_rfl) rfl (fun _ _ d _ _ h => by cases d <;> exact h) ?_ HS.out ?_; rotate_left; (· intro V hV; obtain ⟨q0, q1, q2, q3, q4, q5⟩ := HFX.out V hV; clear hV; go_simp; rfl); (intro K' hK'; go_simp; refine hK' _ ?_; clear hK' K')
                  refine LeftL.runG (v := ?_) 18 rfl (by kernel_rfl) rfl (fun _ _ d _ _ h => by cases d <;> exact h) ?_ HS.out ?_; rotate_left; (· intro V hV; obtain ⟨q0, q1, q2, q3, q4, q5⟩ := HFX.out V hV; clear hV; go_simp; rfl); (intro K' hK'; go_simp; refine hK' _ ?_; clear hK' K')
                  refine LeftL.runG (v := ?_) 19 rfl (by kernel_rfl) rfl (fun _ _ d _ _ h => by cases d <;> exact h) ?_ HS.out ?_; rotate_left; (· intro V hV; obtain ⟨q0, q1, q2, q3, q4, q5⟩ := HFX.out V hV; clear hV; go_simp; rfl); (intro K' hK'; go_simp; refine hK' _ ?_; clear hK' K')
                  refine LeftL.runG (v := ?_) 20 rfl (by kernel_rfl) rfl (fun _ _ d _ _ h => by cases d <;> exact h) ?_ HS.out ?_; rotate_left; (· intro V hV; obtain ⟨q0, q1, q2, q3, q4, q5⟩ := HFX.out V hV; clear hV; go_simp; rfl); (intro K' hK'; go_simp; refine hK' _ ?_; clear hK' K')
                  refine LeftL.runG (v := ?_) 21 rfl (by kernel_rfl) rfl (fun _ _ d _ _ h => by cases d <;> exact h) ?_ HS.out ?_; rotate_left; (· intro V hV; obtain ⟨q0, q1, q2, q3, q4, q5⟩ := HFX.out V hV; clear hV; go_simp; rfl); (intro K' hK'; go_simp; refine hK' _ ?_; clear hK' K')
                  refine LeftL.runG (v := ?_) 22 rfl (by kernel_rfl) rfl (fun _ _ d _ _ h => by cases d <;> exact h) ?_ HS.out ?_; rotate_left; (· intro V hV; obtain ⟨q0, q1, q2, q3, q4, q5⟩ := HFX.out V hV; clear hV; go_simp; rfl); (intro K' hK'; go_simp; refine hK' _ ?_; clear hK' K')
                  refine LeftL.run (v := ?_) 23 rfl (by kernel_rfl) rfl (fun _ _ d _ _ h => by cases d <;> exact h) ?_ HS.out ?_; rotate_left; (· intro V hV; obtain ⟨q0, q1, q2, q3, q4, q5⟩ := HFX.out V hV; clear hV; go_simp; rfl); (intro K' hK'; go_simp; refine hK' _ ?_; clear hK' K')
                  refine LeftL.done (by kernel_rfl) ?_
                  go_wp2_with fail
                  go_meet
                  case rel => exact ⟨by rw [HJB.out]; simp [joinB, he1, he2, he3], HS.out.blk H3.out H3.out.lt (by simp), HX.out.2.call HS.out HX.out.2.size (by simp)⟩
              · skip
                refine wp_region_leftL (fun V => Frm wc.heap.size [] wc V) 1000 (by kernel_rfl) ?_
                have hS : Frm wc.heap.size [] wc wc.drew := (Frm.refl _ _ wc).drew
                have HS := Lib.hid hS
                clear hS
                refine LeftL.run (v := ?_) 0 rfl (by kernel_rfl) rfl (fun _ _ d _ _ h => by cases d <;> exact h) ?_ HS.out ?_; rotate_left; (· intro V hV; obtain ⟨q0, q1, q2, q3, q4, q5⟩ := HFX.out V hV; clear hV; go_simp; rfl); (intro K' hK'; go_simp; refine hK' _ ?_; clear hK' K')
                refine LeftL.run (v := ?_) 1 rfl (by kernel_rfl) rfl (fun _ _ d _ _ h => by cases d <;> exact h) ?_ HS.out ?_; rotate_left; (· intro V hV; obtain ⟨q0, q1, q2, q3, q4, q5⟩ := HFX.out V hV; clear hV; go_simp; rfl); (intro K' hK'; go_simp; refine hK' _ ?_; clear hK' K')
                refine LeftL.run (v := ?_) 2 rfl (by kernel_rfl) rfl (fun _ _ d _ _ h => by cases d <;> exact h) ?_ HS.out ?_; rotate_left; (· intro V hV; obtain ⟨q0, q1, q2, q3, q4, q5⟩ := HFX.out V hV; clear hV; go_simp; rfl); (intro K' hK'; go_simp; refine hK' _ ?_; clear hK' K')
                refine LeftL.runG (v := ?_) 3 rfl (by kernel_rfl) rfl (fun _ _ d _ _ h => by cases d <;> exact h) ?_ HS.out ?_; rotate_left; (· intro V hV; obtain ⟨q0, q1, q2, q3, q4, q5⟩ := HFX.out V hV; clear hV; go_simp; rfl); (intro K' hK'; go_simp; refine hK' _ ?_; clear hK' K')
                refine LeftL.runG (v := ?_) 4 rfl (by kernel_rfl) rfl (fun _ _ d _ _ h => by cases d <;> exact h) ?_ HS.out ?_; rotate_left; (· intro V hV; obtain ⟨q0, q1, q2, q3, q4, q5⟩ := HFX.out V hV; clear hV; go_simp; rfl); (intro K' hK'; go_simp; refine hK' _ ?_; clear hK' K')
                refine LeftL.runG (v := ?_) 5 rfl (by kernel_rfl) rfl (fun _ _ d _ _ h => by cases d <;> exact h) ?_ HS.out ?_; rotate_left; (· intro V hV; obtain ⟨q0, q1, q2, q3, q4, q5⟩ := HFX.out V hV; clear hV; go_simp; rfl); (intro K' hK'; go_simp; refine hK' _ ?_; clear hK' K')
                refine LeftL.runG (v := ?_) 6 rfl (by kernel_rfl) rfl (fun _ _ d _ _ h => by cases d <;> exact h) ?_ HS.out ?_; rotate_left; (· intro V hV; obtain ⟨q0, q1, q2, q3, q4, q5⟩ := HFX.out V hV; clear hV; go_simp; rfl); (intro K' hK'; go_simp; refine hK' _ ?_; clear hK' K')
                refine LeftL.runG (v := ?_) 7 rfl (by kernel_rfl) rfl (fun _ _ d _ _ h => by cases d <;> exact h) ?_ HS.out ?_; rotate_left; (· intro V hV; obtain ⟨q0, q1, q2, q3, q4, q5⟩ := HFX.out V hV; clear hV; go_simp; rfl); (intro K' hK'; go_simp; refine hK' _ ?_; clear hK' K')
                refine LeftL.runG (v := ?_) 8 rfl (by kernel_rfl) rfl (fun _ _ d _ _ h => by cases d <;> exact h) ?_ HS.out ?_; rotate_left; (· intro V hV; obtain ⟨q0, q1, q2, q3, q4, q5⟩ := HFX.out V hV; clear hV; go_simp; rfl); (intro K' hK'; go_simp; refine hK' _ ?_; clear hK' K')
                refine LeftL.runG (v := ?_) 9 rfl (by kernel_rfl) rfl (fun _ _ d _ _ h => by cases d <;> exact h) ?_ HS.out ?_; rotate_left; (· intro V hV; obtain ⟨q0, q1, q2, q3, q4, q5⟩ := HFX.out V hV; clear hV; go_simp; rfl); (intro K' hK'; go_simp; refine hK' _ ?_; clear hK' K')
                refine LeftL.runG (v := ?_) 10 rfl (by kernel_rfl) rfl (fun _ _ d _ _ h => by cases d <;> exact h) ?_ HS.out ?_; rotate_left; (· intro V hV; obtain ⟨q0, q1, q2, q3, q4, q5⟩ := HFX.out V hV; clear hV; go_simp; rfl); (intro K' hK'; go_simp; refine hK' _ ?_; clear hK' K')
                refine LeftL.runG (v := ?_) 11 rfl (by kernel_rfl) rfl (fun _ _ d _ _ h => by cases d <;> exact h) ?_ HS.out ?_; rotate_left; (· intro V hV; obtain ⟨q0, q1, q2, q3, q4, q5⟩ := HFX.out V hV; clear hV; go_simp; rfl); (intro K' hK'; go_simp; refine hK' _ ?_; clear hK' K')
                refine LeftL.runG (v := ?_) 12 rfl (by kernel_rfl) rfl (fun _ _ d _ _ h => by cases d <;> exact h) ?_ HS.out ?_; rotate_left; (· intro V hV; obtain ⟨q0, q1, q2, q3, q4, q5⟩ := HFX.out V hV; clear hV; go_simp; rfl); (intro K' hK'; go_simp; refine hK' _ ?_; clear hK' K')
                refine LeftL.take (v := undef) 13 rfl (by kernel_rfl) (fun _ _ d _ _ h => by cases d <;> exact h) (.inr ⟨rfl, rfl⟩) HS.out ?_; (intro K' hK'; go_simp; refine hK' _ ?_; clear hK' K')
                refine LeftL.take (v := undef) 14 rfl (by kernel_rfl) (fun _ _ d _ _ h => by cases d <;> exact h) (.inr ⟨rfl, rfl⟩) HS.out ?_; (intro K' hK'; go_simp; refine hK' _ ?_; clear hK' K')
                refine LeftL.take (v := undef) 15 rfl (by kernel_rfl) (fun _ _ d _ _ h => by cases d <;> exact h) (.inr ⟨rfl, rfl⟩) HS.out ?_; (intro K' hK'; go_simp; refine hK' _ ?_; clear hK' K')
                refine LeftL.take (v := undef) 16 rfl (by kernel_rfl) (fun _ _ d _ _ h => by cases d <;> exact h) (.inr ⟨rfl, rfl⟩) HS.out ?_; (intro K' hK'; go_simp; refine hK' _ ?_; clear hK' K')
                refine LeftL.take (v := undef) 17 rfl (by kernel_rfl) (fun _ _ d _ _ h => by cases d <;> exact h) (.inr ⟨rfl, rfl⟩) HS.out ?_; (intro K' hK'; go_simp; refine hK' _ ?_; clear hK' K')
                refine LeftL.take (v := undef) 18 rfl (by kernel_rfl) (fun _ _ d _ _ h => by cases d <;> exact h) (.inr ⟨rfl, rfl⟩) HS.out ?_; (intro K' hK'; go_simp; refine hK' _ ?_; clear hK' K')
                refine LeftL.take (v := undef) 19 rfl (by kernel_rfl) (fun _ _ d _ _ h => by cases d <;> exact h) (.inr ⟨rfl, rfl⟩) HS.out ?_; (intro K' hK'; go_simp; refine hK' _ ?_; clear hK' K')
                refine LeftL.take (v := undef) 20 rfl (by kernel_rfl) (fun _ _ d _ _ h => by cases d <;> exact h) (.inr ⟨rfl, rfl⟩) HS.out ?_; (intro K' hK'; go_simp; refine hK' _ ?_; clear hK' K')
                refine LeftL.take (v := undef) 21 rfl (by kernel_rfl) (fun _ _ d _ _ h => by cases d <;> exact h) (.inr ⟨rfl, rfl⟩) HS.out ?_; (intro K' hK'; go_simp; refine hK' _ ?_; clear hK' K')
                refine LeftL.runG (v := ?_) 22 rfl (by kernel_rfl) rfl (fun _ _ d _ _ h => by cases d <;> exact h) ?_ HS.out ?_; rotate_left; (· intro V hV; obtain ⟨q0, q1, q2, q3, q4, q5⟩ := HFX.out V hV; clear hV; go_simp; rfl); (intro K' hK'; go_simp; refine hK' _ ?_; clear hK' K')
                refine LeftL.run (v := ?_) 23 rfl (by kernel_rfl) rfl (fun _ _ d _ _ h => by cases d <;> exact h) ?_ HS.out ?_; rotate_left; (· intro V hV; obtain ⟨q0, q1, q2, q3, q4, q5⟩ := HFX.out V hV; clear hV; go_simp; rfl); (intro K' hK'; go_simp; refine hK' _ ?_; clear hK' K')
                refine LeftL.done (by kernel_rfl) ?_
                go_wp2_with fail
                go_meet
                case rel => exact ⟨by rw [HJB.out]; simp [joinB, he1, he2], HS.out.blk H3.out H3.out.lt (by simp), HX.out.2.call HS.out HX.out.2.size (by simp)⟩
            · skip
              refine wp_region_leftL (fun V => Frm wc.heap.size [] wc V) 1000 (by kernel_rfl) ?_
              have hS : Frm wc.heap.size [] wc wc.drew := (Frm.refl _ _ wc).drew
              have HS := Lib.hid hS
              clear hS
              refine LeftL.run (v := ?_) 0 rfl (by kernel_rfl) rfl (fun _ _ d _ _ h => by cases d <;> exact h) ?_ HS.out ?_; rotate_left; (· intro V hV; obtain ⟨q0, q1, q2, q3, q4, q5⟩ := HFX.out V hV; clear hV; go_simp; rfl); (intro K' hK'; go_simp; refine hK' _ ?_; clear hK' K')
              refine LeftL.run (v := ?_) 1 rfl (by kernel_rfl) rfl (fun _ _ d _ _ h => by cases d <;> exact h) ?_ HS.out ?_; rotate_left; (· intro V hV; obtain ⟨q0, q1, q2, q3, q4, q5⟩ := HFX.out V hV; clear hV; go_simp; rfl); (intro K' hK'; go_simp; refine hK' _ ?_; clear hK' K')
              refine LeftL.run (v := ?_) 2 rfl (by kernel_rfl) rfl (fun _ _ d _ _ h => by cases d <;> exact h) ?_ HS.out ?_; rotate_left; (· intro V hV; obtain ⟨q0, q1, q2, q3, q4, q5⟩ := HFX.out V hV; clear hV; go_simp; rfl); (intro K' hK'; go_simp; refine hK' _ ?_; clear hK' K')
              refine LeftL.runG (v := ?_) 3 rfl (by kernel_rfl) rfl (fun _ _ d _ _ h => by cases d <;> exact h) ?_ HS.out ?_; rotate_left; (· intro V hV; obtain ⟨q0, q1, q2, q3, q4, q5⟩ := HFX.out V hV; clear hV; go_simp; rfl); (intro K' hK'; go_simp; refine hK' _ ?_; clear hK' K')
              refine LeftL.runG (v := ?_) 4 rfl (by kernel_rfl) rfl (fun _ _ d _ _ h => by cases d <;> exact h) ?_ HS.out ?_; rotate_left; (· intro V hV; obtain ⟨q0, q1, q2, q3, q4, q5⟩ := HFX.out V hV; clear hV; go_simp; rfl); (intro K' hK'; go_simp; refine hK' _ ?_; clear hK' K')
              refine LeftL.runG (v := ?_) 5 rfl (by kernel_rfl) rfl (fun _ _ d _ _ h => by cases d <;> exact h) ?_ HS.out ?_; rotate_left; (· intro V hV; obtain ⟨q0, q1, q2, q3, q4, q5⟩ := HFX.out V hV; clear hV; go_simp; rfl); (intro K' hK'; go_simp; refine hK' _ ?_; clear hK' K')
              refine LeftL.runG (v := ?_) 6 rfl (by kernel_rfl) rfl (fun _ _ d _ _ h => by cases d <;> exact h) ?_ HS.out ?_; rotate_left; (· intro V hV; obtain ⟨q0, q1, q2, q3, q4, q5⟩ := HFX.out V hV; clear hV; go_simp; rfl); (intro K' hK'; go_simp; refine hK' _ ?_; clear hK' K')
              refine LeftL.runG (v := ?_) 7 rfl (by kernel_rfl) rfl (fun _ _ d _ _ h => by cases d <;> exact h) ?_ HS.out ?_; rotate_left; (· intro V hV; obtain ⟨q0, q1, q2, q3, q4, q5⟩ := HFX.out V hV; clear hV; go_simp; rfl); (intro K' hK'; go_simp; refine hK' _ ?_; clear hK' K')
              refine LeftL.runG (v := ?_) 8 rfl (by kernel_rfl) rfl (fun _ _ d _ _ h => by cases d <;> exact h) ?_ HS.out ?_; rotate_left; (· intro V hV; obtain ⟨q0, q1, q2, q3, q4, q5⟩ := HFX.out V hV; clear hV; go_simp; rfl); (intro K' hK'; go_simp; refine hK' _ ?_; clear hK' K')
              refine LeftL.runG (v := ?_) 9 rfl (by kernel_rfl) rfl (fun _ _ d _ _ h => by cases d <;> exact h) ?_ HS.out ?_; rotate_left; (· intro V hV; obtain ⟨q0, q1, q2, q3, q4, q5⟩ := HFX.out V hV; clear hV; go_simp; rfl); (intro K' hK'; go_simp; refine hK' _ ?_; clear hK' K')
              refine LeftL.runG (v := ?_) 10 rfl (by kernel_rfl) rfl (fun _ _ d _ _ h => by cases d <;> exact h) ?_ HS.out ?_; rotate_left; (· intro V hV; obtain ⟨q0, q1, q2, q3, q4, q5⟩ := HFX.out V hV; clear hV; go_simp; rfl); (intro K' hK'; go_simp; refine hK' _ ?_; clear hK' K')
              refine LeftL.runG (v := ?_) 11 rfl (by kernel_rfl) rfl (fun _ _ d _ _ h => by cases d <;> exact h) ?_ HS.out ?_; rotate_left; (· intro V hV; obtain ⟨q0, q1, q2, q3, q4, q5⟩ := HFX.out V hV; clear hV; go_simp; rfl); (intro K' hK'; go_simp; refine hK' _ ?_; clear hK' K')
              refine LeftL.runG (v := ?_) 12 rfl (by kernel_rfl) rfl (fun _ _ d _ _ h => by cases d <;> exact h) ?_ HS.out ?_; rotate_left; (· intro V hV; obtain ⟨q0, q1, q2, q3, q4, q5⟩ := HFX.out V hV; clear hV; go_simp; rfl); (intro K' hK'; go_simp; refine hK' _ ?_; clear hK' K')
              refine LeftL.take (v := undef) 13 rfl (by kernel_rfl) (fun _ _ d _ _ h => by cases d <;> exact h) (.inr ⟨rfl, rfl⟩) HS.out ?_; (intro K' hK'; go_simp; refine hK' _ ?_; clear hK' K')
              refine LeftL.take (v := undef) 14 rfl (by kernel_rfl) (fun _ _ d _ _ h => by cases d <;> exact h) (.inr ⟨rfl, rfl⟩) HS.out ?_; (intro K' hK'; go_simp; refine hK' _ ?_; clear hK' K')
              refine LeftL.take (v := undef) 15 rfl (by kernel_rfl) (fun _ _ d _ _ h => by cases d <;> exact h) (.inr ⟨rfl, rfl⟩) HS.out ?_; (intro K' hK'; go_simp; refine hK' _ ?_; clear hK' K')
              refine LeftL.take (v := undef) 16 rfl (by kernel_rfl) (fun _ _ d _ _ h => by cases d <;> exact h) (.inr ⟨rfl, rfl⟩) HS.out ?_; (intro K' hK'; go_simp; refine hK' _ ?_; clear hK' K')
              refine LeftL.take (v := undef) 17 rfl (by kernel_rfl) (fun _ _ d _ _ h => by cases d <;> exact h) (.inr ⟨rfl, rfl⟩) HS.out ?_; (intro K' hK'; go_simp; refine hK' _ ?_; clear hK' K')
              refine LeftL.take (v := undef) 18 rfl (by kernel_rfl) (fun _ _ d _ _ h => by cases d <;> exact h) (.inr ⟨rfl, rfl⟩) HS.out ?_; (intro K' hK'; go_simp; refine hK' _ ?_; clear hK' K')
              refine LeftL.take (v := undef) 19 rfl (by kernel_rfl) (fun _ _ d _ _ h => by cases d <;> exact h) (.inr ⟨rfl, rfl⟩) HS.out ?_; (intro K' hK'; go_simp; refine hK' _ ?_; clear hK' K')
              refine LeftL.take (v := undef) 20 rfl (by kernel_rfl) (fun _ _ d _ _ h => by cases d <;> exact h) (.inr ⟨rfl, rfl⟩) HS.out ?_; (intro K' hK'; go_simp; refine hK' _ ?_; clear hK' K')
              refine LeftL.take (v := undef) 21 rfl (by kernel_rfl) (fun _ _ d _ _ h => by cases d <;> exact h) (.inr ⟨rfl, rfl⟩) HS.out ?_; (intro K' hK'; go_simp; refine hK' _ ?_; clear hK' K')
              refine LeftL.runG (v := ?_) 22 rfl (by kernel_rfl) rfl (fun _ _ d _ _ h => by cases d <;> exact h) ?_ HS.out ?_; rotate_left; (· intro V hV; obtain ⟨q0, q1, q2, q3, q4, q5⟩ := HFX.out V hV; clear hV; go_simp; rfl); (intro K' hK'; go_simp; refine hK' _ ?_; clear hK' K')
              refine LeftL.run (v := ?_) 23 rfl (by kernel_rfl) rfl (fun _ _ d _ _ h => by cases d <;> exact h) ?_ HS.out ?_; rotate_left; (· intro V hV; obtain ⟨q0, q1, q2, q3, q4, q5⟩ := HFX.out V hV; clear hV; go_simp; rfl); (intro K' hK'; go_simp; refine hK' _ ?_; clear hK' K')
              refine LeftL.done (by kernel_rfl) ?_
              go_wp2_with fail
              go_meet
              case rel => exact ⟨by rw [HJB.out]; simp [joinB, he1], HS.out.blk H3.out H3.out.lt (by simp), HX.out.2.call HS.out HX.out.2.size (by simp)⟩
        obtain ⟨rfl, hx2⟩ := hcut
        clear HX
        have HX := Lib.hid hx2
        clear hx2
        cases hjn : decide (0 < j) && !joinB (L (j - 1)) f
        · have HJN := Lib.hid hjn
          clear hjn
          go_wp2_with fail
          have hwr : wrap64 ((j : Int) + 1) = (j : Int) + 1 := IntWalk.wrap64_in _ (by have : n ≤ 9223372036854775807 := hlen; omega)
          refine ⟨⟨j + 1, by rw [hwr]; simp, hjl, fun k hk => ?_, HX.out.2⟩, by rw [hwr]; simp [intOf]; omega⟩
          rcases Nat.lt_or_ge k j with h | h
          · exact HALL.out k h
          · obtain rfl : k = j := by omega
            rw [← HFF.out]
            refine ⟨HLB.out, ?_⟩
            rcases Nat.eq_zero_or_pos k with h0 | h0
            · exact .inl h0
            · right; have := HJN.out; simp [h0] at this; exact this
        · have HJN := Lib.hid hjn
          clear hjn
          go_wp2_with fail
          go_ret
          have : legsB n L = false := by
            rw [← Bool.not_eq_true]
            intro h
            unfold legsB at h
            simp only [Bool.and_eq_true, List.all_eq_true, List.mem_range] at h
            have h1 := (h.2 j hjl).2
            have h2 := HJN.out
            rw [← HFF.out] at h1
            simp only [Bool.and_eq_true, decide_eq_true_eq, Bool.not_eq_true', Bool.or_eq_true] at h1 h2
            rcases h1 with h1 | h1
            · omega
            · rw [h2.2] at h1; cases h1
          exact ⟨by rw [this]; rfl, HX.out.2⟩
    · have hjl' : ¬ (j : Int) < (n : Int) := by omega
      obtain rfl : j = n := by omega
      have HALL := Lib.hid hall
      have HFR := Lib.hid hfr
      clear hfr hall
      go_wp2_with fail
      go_ret
      refine ⟨?_, HFR.out⟩
      have : legsB j L = decide (0 < j) := by
        unfold legsB
        rw [Bool.and_eq_left_iff_imp]
        intro _
        rw [List.all_eq_true]
        intro k hk
        have := HALL.out k (by simpa using hk)
        rw [this.1]
        rcases this.2 with h | h
        · simp [h]
        · rw [h]; simp
      rw [this]
      simp
end Go.Proofs.YtghkfopcjdkieaaDoor
