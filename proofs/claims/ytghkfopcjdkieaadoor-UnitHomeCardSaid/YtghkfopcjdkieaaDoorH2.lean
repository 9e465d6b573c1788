/-
  A unit that has a plan comes home.
-/
import Derived.Test.YtghkfopcjdkieaaDoorH1
namespace Go.Proofs.YtghkfopcjdkieaaDoor
set_option linter.all false
set_option linter.unusedSimpArgs false
set_option linter.unusedVariables false
open Go.ChangeShapes Go.WideShapes Go.ChangeAt Go.RowKit

attribute [local go_sem ↓ high] run_min_ run_max_ run_min2 run_max2
/-- What the statement reads. -/
structure HomeEnv (V : World) (c : Nat) (u : UC) (start : Int) (ra : Option Addr) (rb roff rn rcap : Nat) (R : Nat → WC) (sa : Option Addr) (sb soff n cap : Nat) (S : Nat → FC) (oa : Option Addr) (ob oo N : Nat) (L : Nat → LC) : Prop where
  u : Blk V c 25 u.cells
  t : Blk V (c + 1) 37 (taskC start ra rn rcap sa n cap)
  l : Rw V 8 oa ob oo N fun i => (L i).cells
  r : Rw V 3 ra rb roff rn fun i => (R i).cells
  s : Rw V 8 sa sb soff n fun i => (S i).cells
theorem HomeEnv.frm {V V' : World} {c : Nat} {u : UC} {start : Int} {ra : Option Addr} {rb roff rn rcap : Nat} {R : Nat → WC} {sa : Option Addr} {sb soff n cap : Nat} {S : Nat → FC} {oa : Option Addr} {ob oo N : Nat} {L : Nat → LC}
    (h : HomeEnv V c u start ra rb roff rn rcap R sa sb soff n cap S oa ob oo N L) (hf : Frm V.heap.size [] V V') : HomeEnv V' c u start ra rb roff rn rcap R sa sb soff n cap S oa ob oo N L :=
  ⟨hf.blk h.u h.u.lt (by simp), hf.blk h.t h.t.lt (by simp), h.l.frm hf (Nat.le_refl _), h.r.frm hf (Nat.le_refl _), h.s.frm hf (Nat.le_refl _)⟩
/-- The body of a code's first loop. -/
def firstLoop : Code → Option Code
  | .loop c => some c
  | .seq a b => match firstLoop a with
    | some c => some c
    | none => firstLoop b
  | .block _ c => firstLoop c
  | .scope c => firstLoop c
  | .cond _ a b => match firstLoop a with
    | some c => some c
    | none => firstLoop b
  | _ => none
noncomputable def legBody : Code := ((Tryd.f6.body.bind firstLoop).getD .skip)
noncomputable def weaBody : Code := (firstLoop legBody).getD .skip
theorem meas_next5 {n j : Nat} (h : j < n) : n - ((j : Int) + 1).toNat < n - ((j : Int)).toNat := by omega

set_option maxRecDepth 100000 in
set_option maxHeartbeats 16000000 in
theorem wea_loop (u : UC) (start : Int) (ra : Option Addr) (rb roff rn rcap : Nat) (R : Nat → WC) (sa : Option Addr) (sb soff n cap : Nat) (S : Nat → FC) (oa : Option Addr) (ob oo N : Nat) (L : Nat → LC) (c p9 p13 : Nat) (w0 w3 wz : World)
    (henv : HomeEnv w3 c u start ra rb roff rn rcap R sa sb soff n cap S oa ob oo N L) (hr : Rw w0 8 sa sb soff n fun i => (S i).cells) (g : GC) (tx ty ar lv lf : Int) (l : LC) (hle : l = ⟨g.x, g.y, tx, ty, g.time, ar, lv, lf⟩)
    (hwea : 0 < rn → ∀ k, k < n → (concB (S k) g.x g.y tx ty g.time lv && !fineB u (S k)) = false)
    (hb13 : Blk wz p13 49 l.cells) (hb9 : Blk wz p9 23 [.int .i64 tx, .int .i64 ty]) (hfr9 : Frm w3.heap.size [] w3 wz)
    (x0 x1 x4 x5 x6 x7 x8 x9 x10 x11 x12 x14 x15 x16 x17 x18 x19 x20 x22 x23 x24 x25 x26 x27 x28 x29 x30 x31 x32 x33 x34 x35 x36 x37 x38 x39 x40 x41 x42 x43 x44 x45 x46 x47 x48 x49 x50 x51 x52 x53 x54 x55 x56 x57 x58 x59 x60 x61 x62 x63 x64 x65 x66 x67 x68 x69 x70 x71 x72 x73 x74 x75 x76 x77 x78 x79 x80 x81 x82 x83 x84 x85 x86 x87 x88 x89 x90 x91 x92 x93 x94 x95 x96 x97 x98 x99 x100 x101 x102 x103 x104 x105 x106 x107 x108 x109 x110 x111 x112 x113 x114 x115 x116 x117 x118 x119 x120 x121 x122 x123 x124 x125 x126 x127 x128 x129 x130 x131 x132 x133 x134 x135 x136 x137 x138 x139 x140 x141 x142 x143 x144 x145 x146 x147 x148 x149 x150 x151 x152 x153 x154 x155 x156 x157 x158 x159 x160 x161 x162 x163 x164 x165 x166 x167 x168 x169 x170 x171 x172 x173 x174 x175 x176 x177 x178 x179 x180 x181 x182 x183 x184 x185 x186 x187 x188 x189 x190 x191 x192 x193 x194 x195 x196 x197 x198 x199 x200 x201 x202 x203 x204 x205 x206 x207 x208 x209 x210 x211 x212 x213 x214 x215 x216 x217 x218 x219 x220 x221 x222 x223 x224 x225 x226 x227 x228 x229 x230 x231 x232 x233 x234 x235 x236 x237 x238 x239 x240 x241 x242 x243 x244 x245 x246 x247 x248 x249 x250 x251 x252 x253 x254 x255 x256 x257 x258 x259 x260 x261 x262 x263 x264 x265 x266 x267 x268 x269 x270 x271 x272 x273 x274 x275 x276 x277 x278 x279 x280 x281 x282 x283 x284 x285 x286 x287 x288 x289 x290 x291 x292 x293 x294 x295 x296 x297 x298 x299 x300 x301 x302 x303 x304 x305 x306 x307 x308 x309 x310 x311 x312 x313 x314 x315 x316 x317 x318 x319 x320 x321 x322 x323 x324 x325 x326 x327 x328 x329 x330 x331 x332 : Value) (Q0 : Exit → Act → World → Prop)
    (hex : ∀ (u4 u21 u22 u23 u24 u25 u233 u234 u235 u236 u237 u238 u239 u240 u241 u242 u243 u244 u245 u246 u247 u248 u249 u250 u251 u252 u253 u254 u255 u256 u257 u258 u259 u260 u261 u262 u263 u264 u265 u266 u267 u268 u269 u270 u271 u272 u273 u274 u275 u276 u277 u278 u279 u280 u281 u282 u283 u284 u285 u286 u287 u288 u289 u290 u291 u292 u293 u294 u295 u296 u297 u298 u299 u300 u301 u302 u303 u304 u305 u306 u307 u308 u309 u310 u311 u312 u313 u314 u315 u316 u317 u318 u319 u320 u321 u322 u323 u324 u325 u326 u327 u328 u329 u330 u331 : Value) (w' : World), Blk w' p9 23 [.int .i64 tx, .int .i64 ty] → Frm w3.heap.size [] w3 w' → Q0 (.exit 2) ⟨(List.toArray (x0 :: x1 :: .pointer (some ⟨c, 0, none⟩) :: .pointer (some ⟨c + 1, 0, none⟩) :: u4 :: x5 :: x6 :: x7 :: x8 :: x9 :: x10 :: x11 :: x12 :: .pointer (some ⟨p13, 0, none⟩) :: x14 :: x15 :: x16 :: x17 :: x18 :: x19 :: x20 :: u21 :: u22 :: u23 :: u24 :: u25 :: x26 :: x27 :: x28 :: x29 :: x30 :: x31 :: x32 :: x33 :: x34 :: x35 :: x36 :: x37 :: x38 :: x39 :: x40 :: x41 :: x42 :: x43 :: x44 :: x45 :: x46 :: x47 :: x48 :: x49 :: x50 :: x51 :: x52 :: x53 :: x54 :: x55 :: x56 :: x57 :: x58 :: x59 :: x60 :: x61 :: x62 :: x63 :: x64 :: x65 :: x66 :: x67 :: x68 :: x69 :: x70 :: x71 :: x72 :: x73 :: x74 :: x75 :: x76 :: x77 :: x78 :: x79 :: x80 :: x81 :: x82 :: x83 :: x84 :: x85 :: x86 :: x87 :: x88 :: x89 :: x90 :: x91 :: x92 :: x93 :: x94 :: x95 :: x96 :: x97 :: x98 :: x99 :: x100 :: x101 :: x102 :: x103 :: x104 :: x105 :: x106 :: x107 :: x108 :: x109 :: x110 :: x111 :: x112 :: x113 :: x114 :: x115 :: x116 :: x117 :: x118 :: x119 :: x120 :: x121 :: x122 :: x123 :: x124 :: x125 :: x126 :: x127 :: x128 :: x129 :: x130 :: x131 :: x132 :: x133 :: x134 :: x135 :: x136 :: x137 :: x138 :: x139 :: x140 :: x141 :: x142 :: x143 :: x144 :: x145 :: x146 :: x147 :: x148 :: x149 :: x150 :: x151 :: x152 :: x153 :: x154 :: x155 :: x156 :: x157 :: x158 :: x159 :: x160 :: x161 :: x162 :: x163 :: x164 :: x165 :: x166 :: x167 :: x168 :: x169 :: x170 :: x171 :: x172 :: x173 :: x174 :: x175 :: x176 :: x177 :: x178 :: x179 :: x180 :: x181 :: x182 :: x183 :: x184 :: x185 :: x186 :: x187 :: x188 :: x189 :: x190 :: x191 :: x192 :: x193 :: x194 :: x195 :: x196 :: x197 :: x198 :: x199 :: x200 :: x201 :: x202 :: x203 :: x204 :: x205 :: x206 :: x207 :: x208 :: x209 :: x210 :: x211 :: x212 :: x213 :: x214 :: x215 :: x216 :: x217 :: x218 :: x219 :: x220 :: x221 :: x222 :: x223 :: x224 :: x225 :: x226 :: x227 :: x228 :: x229 :: x230 :: x231 :: x232 :: u233 :: u234 :: u235 :: u236 :: u237 :: u238 :: u239 :: u240 :: u241 :: u242 :: u243 :: u244 :: u245 :: u246 :: u247 :: u248 :: u249 :: u250 :: u251 :: u252 :: u253 :: u254 :: u255 :: u256 :: u257 :: u258 :: u259 :: u260 :: u261 :: u262 :: u263 :: u264 :: u265 :: u266 :: u267 :: u268 :: u269 :: u270 :: u271 :: u272 :: u273 :: u274 :: u275 :: u276 :: u277 :: u278 :: u279 :: u280 :: u281 :: u282 :: u283 :: u284 :: u285 :: u286 :: u287 :: u288 :: u289 :: u290 :: u291 :: u292 :: u293 :: u294 :: u295 :: u296 :: u297 :: u298 :: u299 :: u300 :: u301 :: u302 :: u303 :: u304 :: u305 :: u306 :: u307 :: u308 :: u309 :: u310 :: u311 :: u312 :: u313 :: u314 :: u315 :: u316 :: u317 :: u318 :: u319 :: u320 :: u321 :: u322 :: u323 :: u324 :: u325 :: u326 :: u327 :: u328 :: u329 :: u330 :: u331 :: x332 :: [])), []⟩ w') :
    Code.wp Tryd.prog (Code.loop weaBody) Q0 ⟨(List.toArray (x0 :: x1 :: .pointer (some ⟨c, 0, none⟩) :: .pointer (some ⟨c + 1, 0, none⟩) :: x4 :: x5 :: x6 :: x7 :: x8 :: x9 :: x10 :: x11 :: x12 :: .pointer (some ⟨p13, 0, none⟩) :: x14 :: x15 :: x16 :: x17 :: x18 :: x19 :: x20 :: .int .i64 0 :: x22 :: x23 :: x24 :: x25 :: x26 :: x27 :: x28 :: x29 :: x30 :: x31 :: x32 :: x33 :: x34 :: x35 :: x36 :: x37 :: x38 :: x39 :: x40 :: x41 :: x42 :: x43 :: x44 :: x45 :: x46 :: x47 :: x48 :: x49 :: x50 :: x51 :: x52 :: x53 :: x54 :: x55 :: x56 :: x57 :: x58 :: x59 :: x60 :: x61 :: x62 :: x63 :: x64 :: x65 :: x66 :: x67 :: x68 :: x69 :: x70 :: x71 :: x72 :: x73 :: x74 :: x75 :: x76 :: x77 :: x78 :: x79 :: x80 :: x81 :: x82 :: x83 :: x84 :: x85 :: x86 :: x87 :: x88 :: x89 :: x90 :: x91 :: x92 :: x93 :: x94 :: x95 :: x96 :: x97 :: x98 :: x99 :: x100 :: x101 :: x102 :: x103 :: x104 :: x105 :: x106 :: x107 :: x108 :: x109 :: x110 :: x111 :: x112 :: x113 :: x114 :: x115 :: x116 :: x117 :: x118 :: x119 :: x120 :: x121 :: x122 :: x123 :: x124 :: x125 :: x126 :: x127 :: x128 :: x129 :: x130 :: x131 :: x132 :: x133 :: x134 :: x135 :: x136 :: x137 :: x138 :: x139 :: x140 :: x141 :: x142 :: x143 :: x144 :: x145 :: x146 :: x147 :: x148 :: x149 :: x150 :: x151 :: x152 :: x153 :: x154 :: x155 :: x156 :: x157 :: x158 :: x159 :: x160 :: x161 :: x162 :: x163 :: x164 :: x165 :: x166 :: x167 :: x168 :: x169 :: x170 :: x171 :: x172 :: x173 :: x174 :: x175 :: x176 :: x177 :: x178 :: x179 :: x180 :: x181 :: x182 :: x183 :: x184 :: x185 :: x186 :: x187 :: x188 :: x189 :: x190 :: x191 :: x192 :: x193 :: x194 :: x195 :: x196 :: x197 :: x198 :: x199 :: x200 :: x201 :: x202 :: x203 :: x204 :: x205 :: x206 :: x207 :: x208 :: x209 :: x210 :: x211 :: x212 :: x213 :: x214 :: x215 :: x216 :: x217 :: x218 :: x219 :: x220 :: x221 :: x222 :: x223 :: x224 :: x225 :: x226 :: x227 :: x228 :: x229 :: x230 :: x231 :: x232 :: x233 :: x234 :: x235 :: x236 :: x237 :: x238 :: x239 :: x240 :: x241 :: x242 :: x243 :: x244 :: x245 :: x246 :: x247 :: x248 :: x249 :: x250 :: x251 :: x252 :: x253 :: x254 :: x255 :: x256 :: x257 :: x258 :: x259 :: x260 :: x261 :: x262 :: x263 :: x264 :: x265 :: x266 :: x267 :: x268 :: x269 :: x270 :: x271 :: x272 :: x273 :: x274 :: x275 :: x276 :: x277 :: x278 :: x279 :: x280 :: x281 :: x282 :: x283 :: x284 :: x285 :: x286 :: x287 :: x288 :: x289 :: x290 :: x291 :: x292 :: x293 :: x294 :: x295 :: x296 :: x297 :: x298 :: x299 :: x300 :: x301 :: x302 :: x303 :: x304 :: x305 :: x306 :: x307 :: x308 :: x309 :: x310 :: x311 :: x312 :: x313 :: x314 :: x315 :: x316 :: x317 :: x318 :: x319 :: x320 :: x321 :: x322 :: x323 :: x324 :: x325 :: x326 :: x327 :: x328 :: x329 :: x330 :: x331 :: x332 :: [])), []⟩ wz := by
  have hf0 := Tryd.func6
  have hsi := UC.info u
  clear hf0
  have HR := Lib.hid hr
  have HENV := Lib.hid henv
  have HLE := Lib.hid hle
  have HWEA := Lib.hid hwea
  have B13 := Lib.hid hb13
  have HB9R := Lib.hid hb9
  have HFR9 := Lib.hid hfr9
  have HEX := Lib.hid hex
  have HSI := Lib.hid hsi
  clear hsi hex hfr9 hb9 hb13 hwea hle henv hr
  conv => arg 2; arg 1; whnf
  go_loopw [21] (fun s21 wr => ∃ k : Nat, s21 = .int .i64 k ∧ k ≤ n ∧ Blk wr p13 49 l.cells ∧ Blk wr p9 23 [.int .i64 tx, .int .i64 ty] ∧ Frm w3.heap.size [] w3 wr) (fun s21 _ => n - (intOf s21).toNat)
  case atStart => exact ⟨0, rfl, Nat.zero_le _, B13.out, HB9R.out, HFR9.out⟩
  case round =>
    clear B13 HB9R HFR9
    obtain ⟨k, rfl, hk, hb13, hb9, hfr9⟩ := hrel
    by_cases hin : k < n ∧ 0 < rn
    · obtain ⟨hkn, hr0⟩ := hin
      have hkn' : (k : Int) < (n : Int) := by omega
      have hr1 : (0 : Int) < (rn : Int) := by omega
      have had := HR.out.ad (by omega)
      subst had
      obtain ⟨f, hf⟩ : ∃ f, f = S k := ⟨_, rfl⟩
      have k1 : wr.cell? ⟨c + 1, 1, none⟩ = some (.slice ra rn rcap) := (HENV.out.frm hfr9).t.cell 1
      have k2 : wr.cell? ⟨c + 1, 2, none⟩ = some (.slice (some ⟨sb, soff, none⟩) n cap) := (HENV.out.frm hfr9).t.cell 2
      have hlo : (loadVar 54 ⟨sb, soff + k * 8, none⟩).run Tryd.prog wr = .ok (.agg f.cells.toArray) wr := by
        rw [hf]; exact (HENV.out.frm hfr9).s.load (P := Tryd.prog) Tryd.underlying54 rfl hkn info54
      have hwk := HWEA.out hr0 k hkn
      rw [← hf] at hwk
      have HLO := Lib.hid hlo
      have HKN := Lib.hid hkn
      have HR0 := Lib.hid hr0
      have HFF := Lib.hid hf
      have HWK := Lib.hid hwk
      have B13 := Lib.hid hb13
      have HB9R := Lib.hid hb9
      have HFR9 := Lib.hid hfr9
      clear hfr9 hb9 hb13 hwk hf hr0 hkn hlo
      go_wp2_with (first | (with_reducible refine atLoad 54 rfl ?_; refine wpList_loadE rfl rfl rfl HLO.out ?_) | (with_reducible refine atStore 54 rfl ?_; refine stop_ ?_))
      refine go_on ?_
      refine wpList_storeNew (P := Tryd.prog) (cs := f.cells) rfl rfl rfl rfl rfl info54 (by simp [FC.cells, Value.oneCell']) ?_
      intro V hf1 b22 hz1
      obtain ⟨p22, hp22⟩ : ∃ p, p = wr.heap.size := ⟨_, rfl⟩
      rw [← hp22] at b22 ⊢
      have hb9 := hf1.blk HB9R.out HB9R.out.lt (by simp)
      have hb13 := hf1.blk B13.out B13.out.lt (by simp)
      have hfr9 := HFR9.out.call hf1 HFR9.out.size (by simp)
      have q0 : V.cell? ⟨p22, 0, none⟩ = some (.int .i64 f.from_) := b22.cell 0
      have q1 : V.cell? ⟨p22, 1, none⟩ = some (.int .i64 f.to_) := b22.cell 1
      have q2 : V.cell? ⟨p22, 2, none⟩ = some (.int .i64 f.lx) := b22.cell 2
      have q3 : V.cell? ⟨p22, 3, none⟩ = some (.int .i64 f.ly) := b22.cell 3
      have q4 : V.cell? ⟨p22, 4, none⟩ = some (.int .i64 f.hx) := b22.cell 4
      have q5 : V.cell? ⟨p22, 5, none⟩ = some (.int .i64 f.hy) := b22.cell 5
      have q6 : V.cell? ⟨p22, 6, none⟩ = some (.int .i64 f.sea) := b22.cell 6
      have q7 : V.cell? ⟨p22, 7, none⟩ = some (.int .i64 f.wind) := b22.cell 7
      have u6 : V.cell? ⟨c, 6, none⟩ = some (.int .i64 u.sea) := (HENV.out.frm hfr9).u.cell 6
      have u7 : V.cell? ⟨c, 7, none⟩ = some (.int .i64 u.wind) := (HENV.out.frm hfr9).u.cell 7
      have hb13x := hb13
      rw [HLE.out] at hb13x
      have l0 : V.cell? ⟨p13, 0, none⟩ = some (.int .i64 g.x) := hb13x.cell 0
      have l1 : V.cell? ⟨p13, 1, none⟩ = some (.int .i64 g.y) := hb13x.cell 1
      have l2 : V.cell? ⟨p13, 2, none⟩ = some (.int .i64 tx) := hb13x.cell 2
      have l3 : V.cell? ⟨p13, 3, none⟩ = some (.int .i64 ty) := hb13x.cell 3
      have l4 : V.cell? ⟨p13, 4, none⟩ = some (.int .i64 g.time) := hb13x.cell 4
      have l6 : V.cell? ⟨p13, 6, none⟩ = some (.int .i64 lv) := hb13x.cell 6
      clear hf1 hz1 hp22 b22 hb13x HLO HB9R HFR9 B13 k1 k2
      have HB9R := Lib.hid hb9
      have HFR9 := Lib.hid hfr9
      have B13 := Lib.hid hb13
      clear hb13 hfr9 hb9
      obtain ⟨A, hA⟩ : ∃ b, b = !fineB u f := ⟨_, rfl⟩
      obtain ⟨B, hB⟩ : ∃ b, b = overB f.from_ f.to_ g.time lv := ⟨_, rfl⟩
      obtain ⟨C, hC⟩ : ∃ b, b = (overB f.lx f.hx (min g.x tx) (max g.x tx) && overB f.ly f.hy (min g.y ty) (max g.y ty)) := ⟨_, rfl⟩
      have hbool : ∀ a b c d : Bool, (b && c && d && !a) = false → (!a && b && (c && d)) = false := by decide
      have hno : (A && B && C) = false := by
        rw [hA, hB, hC]
        exact hbool _ _ _ _ HWK.out
      clear hbool
      have HA := Lib.hid hA
      have HB := Lib.hid hB
      have HC2 := Lib.hid hC
      have HNO := Lib.hid hno
      clear hno hC hB hA
      go_upto_region 28 with fail
      dsimp only [Act.put]
      go_cut [23] from 251 to 262 (fun s23 w' => s23 = .bool A ∧ w' = V)
      case first =>
        by_cases h1 : f.sea ≤ u.sea
        · by_cases h2 : f.wind ≤ u.wind
          · have h1' : ¬ u.sea < f.sea := by omega
            have h2' : ¬ u.wind < f.wind := by omega
            go_wp2_with fail
            go_meet
            case rel => exact ⟨by rw [HA.out]; simp [fineB, h1, h2], rfl⟩
          · have h1' : ¬ u.sea < f.sea := by omega
            have h2' : u.wind < f.wind := by omega
            go_wp2_with fail
            go_meet
            case rel => exact ⟨by rw [HA.out]; simp [fineB, h1, h2], rfl⟩
        · have h1' : u.sea < f.sea := by omega
          go_wp2_with fail
          go_meet
          case rel => exact ⟨by rw [HA.out]; simp [fineB, h1], rfl⟩
      obtain ⟨rfl, hwV⟩ := hcut
      rw [hwV]
      clear hwV
      go_upto_region 29 with fail
      go_cut [24] from 263 to 274 (fun s24 w' => s24 = .bool B ∧ w' = V)
      case first =>
        by_cases h1 : f.from_ ≤ lv
        · by_cases h2 : g.time ≤ f.to_
          · go_wp2_with fail
            go_meet
            case rel => exact ⟨by rw [HB.out]; first | (simp [overB, h1, h2]; done) | (simp [overB, h1, h2]; omega), rfl⟩
          · go_wp2_with fail
            go_meet
            case rel => exact ⟨by rw [HB.out]; first | (simp [overB, h1, h2]; done) | (simp [overB, h1, h2]; omega), rfl⟩
        · go_wp2_with fail
          go_meet
          case rel => exact ⟨by rw [HB.out]; first | (simp [overB, h1]; done) | (simp [overB, h1]; omega), rfl⟩
      obtain ⟨rfl, hwV⟩ := hcut
      rw [hwV]
      clear hwV
      obtain ⟨mx, hmx⟩ : ∃ m, m = max g.x tx := ⟨_, rfl⟩
      obtain ⟨nx, hnx⟩ : ∃ m, m = min g.x tx := ⟨_, rfl⟩
      obtain ⟨my, hmy⟩ : ∃ m, m = max g.y ty := ⟨_, rfl⟩
      obtain ⟨ny, hny⟩ : ∃ m, m = min g.y ty := ⟨_, rfl⟩
      have hC3 := HC2.out
      rw [← hmx, ← hnx, ← hmy, ← hny] at hC3
      have m1 := hmx.symm
      have m2 := hnx.symm
      have m3 := hmy.symm
      have m4 := hny.symm
      clear hmx hnx hmy hny
      have HC3 := Lib.hid hC3
      clear hC3
      go_upto_region 30 with fail
      go_cut [25] from 275 to 324 (fun s25 w' => s25 = .bool C ∧ w' = V)
      case first =>
        by_cases h1 : f.lx ≤ mx
        · by_cases h2 : nx ≤ f.hx
          · by_cases h3 : f.ly ≤ my
            · by_cases h4 : ny ≤ f.hy
              · go_wp2_with fail
                go_meet
                case rel => exact ⟨by rw [HC3.out]; first | (simp [overB, h1, h2, h3, h4]; done) | (simp [overB, h1, h2, h3, h4]; omega), rfl⟩
              · go_wp2_with fail
                go_meet
                case rel => exact ⟨by rw [HC3.out]; first | (simp [overB, h1, h2, h3, h4]; done) | (simp [overB, h1, h2, h3, h4]; omega), rfl⟩
            · go_wp2_with fail
              go_meet
              case rel => exact ⟨by rw [HC3.out]; first | (simp [overB, h1, h2, h3]; done) | (simp [overB, h1, h2, h3]; omega), rfl⟩
          · go_wp2_with fail
            go_meet
            case rel => exact ⟨by rw [HC3.out]; first | (simp [overB, h1, h2]; done) | (simp [overB, h1, h2]; omega), rfl⟩
        · go_wp2_with fail
          go_meet
          case rel => exact ⟨by rw [HC3.out]; first | (simp [overB, h1]; done) | (simp [overB, h1]; omega), rfl⟩
      obtain ⟨rfl, hwV⟩ := hcut
      rw [hwV]
      clear hwV m1 m2 m3 m4
      have hwr : IntKind.i64.wrap ((k : Int) + 1) = (k : Int) + 1 := IntWalk.i64_in _ (by have := HR.out.len; have := HKN.out; unfold maxLen at *; omega)
      have hwr' : wrap64 ((k : Int) + 1) = (k : Int) + 1 := IntWalk.wrap64_in _ (by have := HR.out.len; have := HKN.out; unfold maxLen at *; omega)
      have hfin : ∃ k' : Nat, Value.int .i64 ((k : Int) + 1) = .int .i64 k' ∧ k' ≤ n ∧ Blk V p13 49 l.cells ∧ Blk V p9 23 [.int .i64 tx, .int .i64 ty] ∧ Frm w3.heap.size [] w3 V := ⟨k + 1, by simp, HKN.out, B13.out, HB9R.out, HFR9.out⟩
      have hms := meas_next5 HKN.out
      have HFIN := Lib.hid hfin
      have HMS := Lib.hid hms
      clear hms hfin
      have hno := HNO.out
      cases A
      · clear hno
        go_wp2_with fail
        (try simp only [hwr, hwr']); exact ⟨HFIN.out, HMS.out⟩
      · cases B
        · clear hno
          go_wp2_with fail
          (try simp only [hwr, hwr']); exact ⟨HFIN.out, HMS.out⟩
        · cases C
          · clear hno
            go_wp2_with fail
            (try simp only [hwr, hwr']); exact ⟨HFIN.out, HMS.out⟩
          · exact absurd hno (by simp)
    · have k1 : wr.cell? ⟨c + 1, 1, none⟩ = some (.slice ra rn rcap) := (HENV.out.frm hfr9).t.cell 1
      have k2 : wr.cell? ⟨c + 1, 2, none⟩ = some (.slice sa n cap) := (HENV.out.frm hfr9).t.cell 2
      have HFR9 := Lib.hid hfr9
      have HB9R := Lib.hid hb9
      clear hb9 hfr9
      clear hb13
      by_cases hkn : k < n
      · have hr0 : rn = 0 := by omega
        have hkn' : (k : Int) < (n : Int) := by omega
        have hr1 : ¬ (0 : Int) < (rn : Int) := by omega
        have hr2 : ¬ 0 < rn := by omega
        have HR0 := Lib.hid hr0
        have HIN := Lib.hid hin
        clear hin hr0
        go_wp2_with fail
        exact HEX.out _ _ _ _ _ _ _ _ _ _ _ _ _ _ _ _ _ _ _ _ _ _ _ _ _ _ _ _ _ _ _ _ _ _ _ _ _ _ _ _ _ _ _ _ _ _ _ _ _ _ _ _ _ _ _ _ _ _ _ _ _ _ _ _ _ _ _ _ _ _ _ _ _ _ _ _ _ _ _ _ _ _ _ _ _ _ _ _ _ _ _ _ _ _ _ _ _ _ _ _ _ _ _ _ _ wr HB9R.out HFR9.out
      · have hkn' : ¬ (k : Int) < (n : Int) := by omega
        have HIN := Lib.hid hin
        clear hin
        go_wp2_with fail
        exact HEX.out _ _ _ _ _ _ _ _ _ _ _ _ _ _ _ _ _ _ _ _ _ _ _ _ _ _ _ _ _ _ _ _ _ _ _ _ _ _ _ _ _ _ _ _ _ _ _ _ _ _ _ _ _ _ _ _ _ _ _ _ _ _ _ _ _ _ _ _ _ _ _ _ _ _ _ _ _ _ _ _ _ _ _ _ _ _ _ _ _ _ _ _ _ _ _ _ _ _ _ _ _ _ _ _ _ wr HB9R.out HFR9.out
end Go.Proofs.YtghkfopcjdkieaaDoor
