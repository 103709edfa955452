/- ShortSays: what the proof leans on, part 26 (Sy6). -/
import Derived.Test.YthaelmnblgollaaGreatDoorKShortSays24
import Derived.Test.YthaelmnblgollaaGreatDoorKShortSays25
set_option linter.unusedVariables false
set_option linter.unusedSimpArgs false
namespace Go.Ulp
open Go.RowKit
def RetShR (D : Dy) (E f : Nat) (pd : Int) (w : World) (e : Ending) (w' : World) : Prop :=
  ∃ k : Nat, (∀ j, j < k → shS D E f j pd = false) ∧ shS D E f k pd = true ∧ e = .returned (.tuple #[.string (bsOf (stp (decD (shZ D E f k pd)))), .int .i64 (shX D E f k pd)]) ∧ Below w.heap.size w w'
/-- the upper one is the lower one, if nothing is left -/
def shH (D : Dy) (k : Nat) (pd : Int) : Nat := if shR D k pd = 0 then shL D k pd else shL D k pd + 1
theorem sh_ref (D : Dy) (E f k : Nat) (pd : Int) (hv : IsVal D E f) (hf : f < 4503599627370496) (hr : 1 ≤ E * 4503599627370496 + f) (a b : Nat) (hb : 0 < b) (hab : a * shB D k pd = shA D k pd * b) (l h : Bool) (hl : l = fitP E f (shL D k pd) (pd - k)) (hh : h = fitP E f (shH D k pd) (pd - k)) :
    a / b = shL D k pd ∧ ((a % b = 0) ↔ shR D k pd = 0) ∧ shS D E f k pd = (l || h) ∧
    (shZ D E f k pd = if (!h || (l && (decide (2 * (a % b) < b) || (decide (2 * (a % b) = b) && decide (shL D k pd % 2 = 0))))) = true then shL D k pd else shH D k pd) := by
  have hB := shB_pos D k pd
  obtain ⟨e1, e2⟩ := ratio_eq hb hB hab
  have hx := sh_exact D E f k pd hv hf hr
  have hR0 : (a % b = 0) ↔ shR D k pd = 0 := by
    constructor
    · intro h0
      rw [h0, Nat.zero_mul] at e2
      rcases Nat.mul_eq_zero.1 e2.symm with h1 | h1
      · exact h1
      · omega
    · intro h0
      have e2 : a % b * shB D k pd = shR D k pd * b := e2
      rw [h0, Nat.zero_mul] at e2
      rcases Nat.mul_eq_zero.1 e2 with h1 | h1
      · exact h1
      · omega
  have e2 : a % b * shB D k pd = shR D k pd * b := e2
  have c1 : (2 * (a % b) < b) ↔ 2 * shR D k pd < shB D k pd := by
    constructor
    · intro h0
      have h1 : 2 * (a % b) * shB D k pd < b * shB D k pd := Nat.mul_lt_mul_of_pos_right h0 hB
      rw [Nat.mul_assoc, e2, ← Nat.mul_assoc, Nat.mul_comm b] at h1
      exact Nat.lt_of_mul_lt_mul_right h1
    · intro h0
      have h1 : 2 * shR D k pd * b < shB D k pd * b := Nat.mul_lt_mul_of_pos_right h0 hb
      rw [Nat.mul_assoc, ← e2, ← Nat.mul_assoc, Nat.mul_comm _ b] at h1
      exact Nat.lt_of_mul_lt_mul_right h1
  have c2 : (2 * (a % b) = b) ↔ 2 * shR D k pd = shB D k pd := by
    constructor
    · intro h0
      have h1 : 2 * (a % b) * shB D k pd = b * shB D k pd := by rw [h0]
      rw [Nat.mul_assoc, e2, ← Nat.mul_assoc, Nat.mul_comm b] at h1
      exact Nat.eq_of_mul_eq_mul_right hb h1
    · intro h0
      have h1 : 2 * shR D k pd * b = shB D k pd * b := by rw [h0]
      rw [Nat.mul_assoc, ← e2, ← Nat.mul_assoc, Nat.mul_comm _ b] at h1
      exact Nat.eq_of_mul_eq_mul_right hB h1
  refine ⟨e1, hR0, ?_, ?_⟩
  · unfold shS
    rw [hl, hh]
    unfold shH
    by_cases h0 : shR D k pd = 0
    · rw [if_pos h0, hx h0]; rfl
    · rw [if_neg h0]
  · unfold shZ shU
    by_cases h0 : shR D k pd = 0
    · have h3 := hx h0
      have : shH D k pd = shL D k pd := by unfold shH; rw [if_pos h0]
      rw [this]
      simp [h0]
    · have h4 : shH D k pd = shL D k pd + 1 := by unfold shH; rw [if_neg h0]
      rw [h4] at hh ⊢
      rw [← hl, ← hh]
      have d1 : decide (2 * (a % b) < b) = decide (2 * shR D k pd < shB D k pd) := by rw [decide_eq_decide]; exact c1
      have d2 : decide (2 * (a % b) = b) = decide (2 * shR D k pd = shB D k pd) := by rw [decide_eq_decide]; exact c2
      rw [d1, d2, decide_eq_true (show shR D k pd ≠ 0 from h0), Bool.true_and]
      generalize (decide (2 * shR D k pd < shB D k pd) || (decide (2 * shR D k pd = shB D k pd) && decide (shL D k pd % 2 = 0))) = q
      cases h <;> cases l <;> cases q <;> simp
end Go.Ulp
namespace Go.Proofs.YthaelmnblgollaaGreatDoor
open Go.RowKit Go.Ulp
set_option linter.unusedVariables false
set_option linter.unusedSimpArgs false
set_option maxHeartbeats 4000000
set_option maxRecDepth 100000
theorem rShDigits_any (x : Int) (E f : Nat) (hx : x = ((E * 4503599627370496 + f : Nat) : Int)) (hr : 1 ≤ E * 4503599627370496 + f) (hf : f < 4503599627370496) (hE2 : E < 2047) (pd : Int)
    (hp : IsDec (dA (rkD x)) (dB (rkD x)) pd) (hpb : -330 ≤ pd ∧ pd ≤ 320) (w : World) :
    Calls Tryz.prog 55 #[.int .u64 x] w (RetShR (rkD x) E f pd w) := by
  have vp2 := (val_parts E f hf).2
  rw [← hx] at vp2
  have hx0 : 0 ≤ x ∧ x < 9223372036854775808 := by omega
  have hDb : (rkD x).1.natAbs < 2 ^ 53 ∧ -1074 ≤ (rkD x).2 ∧ (rkD x).2 ≤ 1024 := by
    rw [← rkD_fv x hx0.1 hx0.2]; exact (fv_bd x (by omega) (by omega)).2
  have hDn : (rkD x).1 ≠ 0 := by
    intro h
    have h9 : dA (rkD x) = 0 := by unfold dA; rw [h]; simp
    have h8 := hp.1
    unfold lessT at h8
    rw [h9, Nat.zero_mul] at h8
    have := of_decide_eq_false h8
    have := Nat.mul_pos (dB_pos (rkD x)) (tnN_pos pd)
    omega
  have QV := hid (fun w => by
    have h := qval_any x hx0.1 (by omega) w
    rwa [rkD_fv x hx0.1 hx0.2] at h)
  obtain ⟨D, hD⟩ : ∃ D, D = rkD x := ⟨_, rfl⟩
  rw [← hD] at vp2 hp hDb hDn QV ⊢
  have DC := hid (fun v w h => decade_any v D pd w h hDn hp (by omega))
  have TT := hid (fun v w (c : Int) h (hc : -10000 ≤ c ∧ c ≤ 10000) => tenTimes_any v D 1200 1100 c w h (by omega) (by omega) hc)
  have VP2 := hid vp2
  have y0 := below_alloc w (.cells #[.int .u64 x] 23)
  have c0 : (w.alloc (.cells #[.int .u64 x] 23)).cell? ⟨w.heap.size, 0, none⟩ = some (.int .u64 x) := by rw [World.cell?_alloc_at (hn := rfl)]; rfl
  have HXX := hid hx
  have hmf : ∀ fn first cap w, (Instr.makeFunc fn first cap).run Tryz.prog w = .ok (.func fn first cap) w := fun _ _ _ _ => rfl
  clear vp2 hx hD
  go_enter Tryz.func55, Tryz.ntmps55
  go_upto_region 1 with fail
  go_upto_region 2 with (go_at_call 68; (with_reducible refine (QV.out _).mono ?_); rintro en w1 ⟨v1, rfl, ⟨X, n, ao, cap, rfl, hN, hDX, hXb, hn⟩, hb1⟩)
  have c1 := (hb1.cell (World.block_lt_of_cell? _ _ c0)).trans c0
  have yq := below_alloc w1 (.cells #[.bool (zneg X), .slice ao (zl X).length cap, .int .i64 (n : Int)] 41)
  refine wp_worldZ (fun WW => Below w.heap.size w WW ∧ WW.cell? ⟨w.heap.size, 0, none⟩ = some (.int .u64 x) ∧ QL 41 WW w1.heap.size (zneg X) (.slice ao (zl X).length cap) (n : Int) ∧ Nz 3 WW ao cap (zl X))
    ⟨below_trans (below_trans y0 hb1) yq, (yq.cell (World.block_lt_of_cell? _ _ c1)).trans c1, QL.made rfl, hN.below yq⟩ ?_
  intro W2 ⟨y2, cx, zQ, hNq⟩
  obtain ⟨g1, hg1⟩ : ∃ g, g = w.heap.size := ⟨_, rfl⟩
  obtain ⟨g4, hg4⟩ : ∃ g, g = w1.heap.size := ⟨_, rfl⟩
  rw [← hg4] at zQ ⊢
  rw [← hg1] at cx
  rw [← hg1]
  clear hg1 hg4 yq c1 c0 hb1 y0 hN
  have QDW := hid (show ∀ w', Below W2.heap.size W2 w' → QD 3 w' D 1200 1100 (.agg #[.bool (zneg X), .slice ao (zl X).length cap, .int .i64 (n : Int)]) from fun w' h => ⟨X, n, ao, cap, rfl, hNq.below h, hDX, hXb, hn⟩)
  have ZQ := hid (show ∀ w', Below W2.heap.size W2 w' → QL 41 w' g4 (zneg X) (.slice ao (zl X).length cap) (n : Int) from fun w' h => zQ.below h)
  have CX := hid (show ∀ w', Below W2.heap.size W2 w' → w'.cell? ⟨g1, 0, none⟩ = some (.int .u64 x) from fun w' h => (h.cell (World.block_lt_of_cell? _ _ cx)).trans cx)
  obtain ⟨⟨j0, j1, -⟩, j2, -⟩ := id zQ
  clear zQ hNq hDX hXb cx hn
  go_upto_block 0 with (go_at_call 145; (with_reducible refine (DC.out _ _ (QDW.out _ (Below.refl _ _))).mono ?_); rintro en w4 ⟨rfl, hb4⟩)
  obtain ⟨W3, hW3⟩ : ∃ W, W = w4 := ⟨_, rfl⟩
  subst hW3
  clear j0 j1 j2 DC
  have yW3 := hb4
  clear hb4
  go_wp2_with fail
  go_loopw [6, 7, 8, 9, 10, 11, 12, 13, 14, 15, 16, 17, 18, 19, 20, 21, 22] (fun s6 s7 s8 s9 s10 s11 s12 s13 s14 s15 s16 s17 s18 s19 s20 s21 s22 wr => ∃ k : Nat, s6 = .int .i64 ((k : Int) + 1) ∧ k ≤ 1400 ∧ (∀ j, j < k → shS D E f j pd = false) ∧ Below W3.heap.size W3 wr) (fun s6 s7 s8 s9 s10 s11 s12 s13 s14 s15 s16 s17 s18 s19 s20 s21 s22 _ => 2000 - (intOf s6).toNat)
  case atStart => exact ⟨0, rfl, by omega, fun j h => by omega, Below.refl _ _⟩
  case round =>
    obtain ⟨k, rfl, hk, hks, yr⟩ := hrel
    have yr2 := below_trans yW3 yr
    have HKE := hid (fun h => sh_ends D k pd hDb.2.1 h)
    have HKS := hid (fun h => sh_some D E f k pd VP2.out hf hr h)
    have HREF := hid (fun a b h1 h2 l h h3 h4 => sh_ref D E f k pd VP2.out hf hr a b h1 h2 l h h3 h4)
    have HKK := hid hks
    have HP := hid hp
    clear hks hp
    have e9 : pd - ((k : Int) + 1) + 1 = pd - k := by omega
    have wA : IntKind.i64.wrap (pd - ((k : Int) + 1)) = pd - ((k : Int) + 1) := IntWalk.i64_in _ (by omega)
    have wB : IntKind.i64.wrap (pd - (k : Int)) = pd - k := IntWalk.i64_in _ (by omega)
    go_upto_region 6 with fail
    have ya := below_alloc wr (.cells #[.int .i64 (pd - (k : Int))] 3)
    refine wp_worldZ (fun WW => Below W2.heap.size W2 WW ∧ Below W3.heap.size W3 WW ∧ WW.cell? ⟨wr.heap.size, 0, none⟩ = some (.int .i64 (pd - (k : Int)))) ⟨below_trans yr2 ya, below_trans yr ya, by rw [World.cell?_alloc_at (hn := rfl)]; rfl⟩ ?_
    intro W5 ⟨y5, y5', c7⟩
    obtain ⟨g7, hg7⟩ : ∃ g, g = wr.heap.size := ⟨_, rfl⟩
    rw [← hg7] at c7 ⊢
    clear hg7 ya yr yr2 e9 wA wB
    have wC : IntKind.i64.wrap (-(pd - (k : Int))) = (k : Int) - pd := by rw [IntWalk.i64_in _ (by omega)]; omega
    have wD : IntKind.i64.wrap ((k : Int) - pd) = (k : Int) - pd := IntWalk.i64_in _ (by omega)
    obtain ⟨⟨j0, j1, -⟩, j2, -⟩ := ZQ.out _ y5
    have TTk := hid (fun w h => TT.out (.agg #[.bool (zneg X), .slice ao (zl X).length cap, .int .i64 (n : Int)]) w ((k : Int) - pd) h (by omega))
    go_upto_region 7 with (go_at_call 146; (with_reducible refine (TTk.out _ (QDW.out _ y5)).mono ?_); rintro en w6 ⟨a, b, v6, rfl, ⟨aa, ca, ab, cb, rfl, na, nb⟩, hb0, hab, la, lb, hb6⟩)
    have zz := zv_made2 (tz := 39) (ti := 3) na nb
    have y6 := below_trans y5 hb6
    have y6' := below_trans y5' hb6
    have c6 := (hb6.cell (World.block_lt_of_cell? _ _ c7)).trans c7
    refine wp_worldZ (fun WW => Below W2.heap.size W2 WW ∧ Below W3.heap.size W3 WW ∧ WW.cell? ⟨g7, 0, none⟩ = some (.int .i64 (pd - (k : Int))) ∧ ZV 39 3 WW w6.heap.size (a : Int) ∧ ZV 39 3 WW (w6.heap.size + 1) (b : Int))
      ⟨below_trans y6 zz.1, below_trans y6' zz.1, (zz.1.cell (World.block_lt_of_cell? _ _ c6)).trans c6, zz.2.1, by first | exact zz.2.2 | (have h := zz.2.2; simpa using h)⟩ ?_
    intro W7 ⟨y7, y7', c8, z8, z9⟩
    obtain ⟨g8, hg8⟩ : ∃ g, g = w6.heap.size := ⟨_, rfl⟩
    obtain ⟨g9, hg9⟩ : ∃ g, g = w6.heap.size + 1 := ⟨_, rfl⟩
    try rw [← hg9] at z9 ⊢
    rw [← hg8] at z8 ⊢
    clear hg8 hg9 zz na nb y5 y5' y6 y6' hb6 c6 c7 j0 j1 j2 wC wD TTk
    have HAB := hid hab
    clear hab
    obtain ⟨L, hL⟩ : ∃ L : Nat, L = a / b := ⟨_, rfl⟩
    obtain ⟨r, hr9⟩ : ∃ r : Nat, r = a % b := ⟨_, rfl⟩
    have lL : (zl (L : Int)).length ≤ 300000 := by rw [hL]; exact Nat.le_trans (zl_len_le (by rw [Int.natAbs_natCast, Int.natAbs_natCast]; exact Nat.div_le_self a b)) la
    have lr : (zl (r : Int)).length ≤ 300000 := by rw [hr9]; exact Nat.le_trans (zl_len_le (by rw [Int.natAbs_natCast, Int.natAbs_natCast]; exact Nat.mod_le a b)) la
    obtain ⟨k1, k2, k3, -⟩ := HREF.out a b hb0 HAB.out _ _ rfl rfl
    have hLs : L = shL D k pd := by rw [hL]; exact k1
    have hrs : (r = 0) ↔ shR D k pd = 0 := by rw [hr9]; exact k2
    have hLb := shL_bd D k pd HP.out
    rw [← hLs] at hLb
    have DV := hid (show ∀ v u w, ZD 3 w (a : Int) v → ZD 3 w (b : Int) u → Calls Tryz.prog 147 #[v, u] w (RetZD2 3 w (L : Int) (r : Int)) from fun v u w h1 h2 => by
      have h9 := zdivD v u (a : Int) (b : Int) w h1 h2 (by omega) (by omega) (by omega)
      rw [hL, hr9]; exact h9)
    have za := z8
    have zb := z9
    obtain ⟨a8, c8', l8, n8⟩ := z8
    obtain ⟨a9, c9', l9, n9⟩ := id z9
    obtain ⟨i0, i1, -⟩ := id l8
    obtain ⟨j0, j1, -⟩ := id l9
    have zd8 : ZD 3 W7 (a : Int) (.agg #[.bool (zneg (a : Int)), .slice a8 (zl (a : Int)).length c8']) := ⟨_, _, rfl, n8⟩
    have zd9 : ZD 3 W7 (b : Int) (.agg #[.bool (zneg (b : Int)), .slice a9 (zl (b : Int)).length c9']) := ⟨_, _, rfl, n9⟩
    have HLL := hid hLs
    have HRS := hid hrs
    have HR9 := hid hr9
    have HLA := hid hL
    have HLB := hid hLb
    clear hL hr9 k1 k2 k3 hLs hrs hLb
    go_upto_region 8 with (go_at_call 147; (with_reducible refine (DV.out _ _ _ zd8 zd9).mono ?_); rintro en w8 ⟨v8, rfl, ⟨aa, ca, ab, cb, rfl, na, nb⟩, hb8⟩)
    have zz := zv_made2 (tz := 39) (ti := 3) na nb
    have yt := hb8.trans (zz.1.mono hb8.size)
    refine wp_worldZ (fun WW => Below W2.heap.size W2 WW ∧ Below W3.heap.size W3 WW ∧ WW.cell? ⟨g7, 0, none⟩ = some (.int .i64 (pd - (k : Int))) ∧ ZV 39 3 WW g9 (b : Int) ∧ ZV 39 3 WW w8.heap.size (L : Int) ∧ ZV 39 3 WW (w8.heap.size + 1) (r : Int))
      ⟨below_trans y7 yt, below_trans y7' yt, (yt.cell (World.block_lt_of_cell? _ _ c8)).trans c8, zb.below yt, zz.2.1, by first | exact zz.2.2 | (have h := zz.2.2; simpa using h)⟩ ?_
    intro W9 ⟨y9, y9', c9, z9b, z10, z11⟩
    obtain ⟨g10, hg10⟩ : ∃ g, g = w8.heap.size := ⟨_, rfl⟩
    obtain ⟨g11, hg11⟩ : ∃ g, g = w8.heap.size + 1 := ⟨_, rfl⟩
    try rw [← hg11] at z11 ⊢
    rw [← hg10] at z10 ⊢
    clear hg10 hg11 zz na nb hb8 yt c8 z9 za zb l8 n8 l9 n9 i0 i1 j0 j1 zd8 zd9 y7 y7' DV
    obtain ⟨a10, c10', l10, n10⟩ := id z10
    obtain ⟨i0, i1, -⟩ := id l10
    go_upto_region 9 with fail
    have zc := zv_made (tz := 39) n10 W9.heap.size rfl
    have yc := below_alloc W9 (.cells #[.bool (zneg (L : Int)), .slice a10 (zl (L : Int)).length c10'] 39)
    refine wp_worldZ (fun WW => Below W2.heap.size W2 WW ∧ Below W3.heap.size W3 WW ∧ WW.cell? ⟨g7, 0, none⟩ = some (.int .i64 (pd - (k : Int))) ∧ ZV 39 3 WW g9 (b : Int) ∧ ZV 39 3 WW g10 (L : Int) ∧ ZV 39 3 WW g11 (r : Int) ∧ ZV 39 3 WW W9.heap.size (L : Int))
      ⟨below_trans y9 yc, below_trans y9' yc, (yc.cell (World.block_lt_of_cell? _ _ c9)).trans c9, z9b.below yc, z10.below yc, z11.below yc, zc⟩ ?_
    intro W10 ⟨y10, y10', d7, d9, d10, d11, d12⟩
    obtain ⟨g12, hg12⟩ : ∃ g, g = W9.heap.size := ⟨_, rfl⟩
    have n97 : g9 ≠ g12 := by have := z9b.lt; omega
    have n107 : g10 ≠ g12 := by have := z10.lt; omega
    have n117 : g11 ≠ g12 := by have := z11.lt; omega
    have n77 : g7 ≠ g12 := by have h : g7 < W9.heap.size := World.block_lt_of_cell? _ _ c9; omega
    have b12 : W3.heap.size ≤ g12 := by have := y9'.size; omega
    have b12' : W2.heap.size ≤ g12 := by have := y9.size; omega
    rw [← hg12] at d12 ⊢
    clear hg12 zc yc n10 l10 i0 i1 z9b z10 z11 c9 y9 y9'
    obtain ⟨sg, hsg⟩ : ∃ z, z = cmpI (r : Int) 0 := ⟨_, rfl⟩
    have SGN := hid (fun v w h => by
      have h9 := zsignD v (r : Int) w h
      rwa [← hsg] at h9)
    have hsg0 : r = 0 → sg = 0 := fun h => by rw [hsg, h]; rfl
    have hsg1 : r ≠ 0 → sg = 1 := fun h => by rw [hsg]; unfold cmpI; rw [if_neg (by omega), if_pos (by omega)]
    clear hsg
    obtain ⟨a11, c11', l11, n11⟩ := id d11
    obtain ⟨i0, i1, -⟩ := id l11
    have zd11 : ZD 3 W10 (r : Int) (.agg #[.bool (zneg (r : Int)), .slice a11 (zl (r : Int)).length c11']) := ⟨_, _, rfl, n11⟩
    go_upto_if 49 with (go_at_call 47; (with_reducible refine (SGN.out _ _ zd11).mono ?_); rintro en w11 ⟨rfl, hb11⟩)
    obtain ⟨W11, hW11⟩ : ∃ W, W = w11 := ⟨_, rfl⟩
    subst hW11
    have y11 := below_trans y10 hb11
    have y11' := below_trans y10' hb11
    replace d7 := (hb11.cell (World.block_lt_of_cell? _ _ d7)).trans d7
    replace d9 := d9.below hb11
    replace d10 := d10.below hb11
    replace d11 := d11.below hb11
    replace d12 := d12.below hb11
    clear hb11 y10 y10' i0 i1 l11 n11 zd11 SGN
    obtain ⟨H, hH⟩ : ∃ H : Nat, H = shH D k pd := ⟨_, rfl⟩
    have hHr : H = if r = 0 then L else L + 1 := by
      rw [hH, HLL.out]; unfold shH
      by_cases h : shR D k pd = 0
      · rw [if_pos h, if_pos (HRS.out.2 h)]
      · rw [if_neg h, if_neg (fun h9 => h (HRS.out.1 h9))]
    have HHH := hid hH
    clear hH
    go_cut [] (fun wx => Below W2.heap.size W2 wx ∧ Below W3.heap.size W3 wx ∧ wx.cell? ⟨g7, 0, none⟩ = some (.int .i64 (pd - (k : Int))) ∧ ZV 39 3 wx g9 (b : Int) ∧ ZV 39 3 wx g10 (L : Int) ∧ ZV 39 3 wx g11 (r : Int) ∧ ZV 39 3 wx g12 (H : Int))
    case first => as_aux_lemma =>
      by_cases h0 : r = 0
      · have h1 := hsg0 h0
        subst h1
        rw [if_pos h0] at hHr
        have HHR := hid hHr
        clear hHr hsg0 hsg1 h0
        go_wp2_with fail
        go_meet
        exact ⟨y11, y11', d7, d9, d10, d11, by rw [HHR.out]; exact d12⟩
      · have h1 := hsg1 h0
        subst h1
        rw [if_neg h0] at hHr
        have HHR := hid hHr
        clear hHr hsg0 hsg1 h0
        have lL2 : (zl (L : Int)).length ≤ 100000000 := by omega
        have lone : (zl (1 : Int)).length ≤ 100000000 := by decide
        go_upto_region 10 with fail
        refine wp_region_grow 3 [50, 51, 52] [Fact.z 3 ((L : Int)), Fact.z 3 (1), Fact.z 3 (((L : Int)) + (1))] (by kernel_rfl) (by kernel_rfl) ⟨?o0, ?o1, ?o2, trivial⟩ ?after
        case o0 => (refine StepOK.plain rfl ?_; intro ρ w1 R hρ hb hp hR; have e10 : ρ (.tmp 10) = .pointer (some ⟨g10, 0, none⟩) := hρ.tmp 10 rfl; obtain ⟨ya9, yc9, yj9, yn9⟩ := ZV.below d10 hb; obtain ⟨j90, j91, -⟩ := yj9; have hcon := hρ.con; have hfn := hρ.fn; clear hρ hp; unfold OpRun; go_simp; exact hR _ _ (Below.refl _ _) ⟨ya9, yc9, rfl, yn9⟩)
        case o1 => (refine StepOK.plain rfl ?_; intro ρ w1 R hρ hb hp hR; have hcon := hρ.con; have hfn := hρ.fn; clear hρ hp; unfold OpRun; go_simp; (refine (zND _ (by omega) (by omega) _).mono ?_; rintro e wn ⟨v9, rfl, hz9, hbn⟩; exact ⟨_, rfl, hR _ _ hbn hz9⟩))
        case o2 => (refine StepOK.plain rfl ?_; intro ρ w1 R hρ hb hp hR; have f50 := hp 0 50 rfl rfl; have f51 := hp 1 51 rfl rfl; have hcon := hρ.con; have hfn := hρ.fn; clear hρ hp; unfold OpRun; go_simp; (refine (zaddD _ _ _ _ _ f50 f51 (by first | assumption | omega) (by first | assumption | omega)).mono ?_; rintro e wn ⟨v9, rfl, hz9, hbn⟩; exact ⟨_, rfl, hR _ _ hbn hz9⟩))
        case after =>
          intro u wn hb hf
          have f52 := hf 2 52 (by omega) rfl
          clear hf
          simp only [putAll, Act.put, List.setIfInBounds_toArray, List.set_cons_zero, List.set_cons_succ, List.drop_succ_cons, List.drop_zero, List.drop_nil]
          obtain ⟨a6, c6, e52, n6⟩ := f52
          rw [e52]
          have yb := below_trans y11 hb
          have yb' := below_trans y11' hb
          obtain ⟨a3, c3, zl3, n3⟩ := d12.below hb
          have zst := zv_store1 (by decide) yb b12' zl3 n6
          have zst' := zv_store1 (by decide) yb' b12 zl3 n6
          have k9 := (d9.below hb).set2 (zl3.2.2.2.2) (by decide) n97 (.bool (zneg ((L : Int) + 1))) (.slice a6 (zl ((L : Int) + 1)).length c6)
          have k10 := (d10.below hb).set2 (zl3.2.2.2.2) (by decide) n107 (.bool (zneg ((L : Int) + 1))) (.slice a6 (zl ((L : Int) + 1)).length c6)
          have k11 := (d11.below hb).set2 (zl3.2.2.2.2) (by decide) n117 (.bool (zneg ((L : Int) + 1))) (.slice a6 (zl ((L : Int) + 1)).length c6)
          have k7 : (((wn.setCell ⟨g12, 0, none⟩ (.bool (zneg ((L : Int) + 1)))).setCell ⟨g12, 1, none⟩ (.slice a6 (zl ((L : Int) + 1)).length c6))).cell? ⟨g7, 0, none⟩ = some (.int .i64 (pd - (k : Int))) := by
            rw [World.cell?_setCell_other (h := fun e => n77 (by injection e with e1; omega)), World.cell?_setCell_other (h := fun e => n77 (by injection e with e1; omega))]
            exact (hb.cell (World.block_lt_of_cell? _ _ d7)).trans d7
          obtain ⟨q0, q1, qf0, qf1, -⟩ := id zl3
          have HZ := hid (And.intro zst (And.intro zst'.1 (And.intro k7 (And.intro k9 (And.intro k10 k11)))))
          clear zst zst' k7 k9 k10 k11 n3 e52 hb yb yb'
          go_wp2_with fail
          go_meet
          obtain ⟨z1, z2, z3, z4, z5, z6⟩ := HZ.out
          exact ⟨z1.1, z2, z3, z4, z5, z6, z1.2.cast (by rw [HHR.out]; rfl)⟩
    case rest =>
    obtain ⟨y12, y12', q7, q9, q10, q11, q12⟩ := hcut
    obtain ⟨W12, hW12⟩ : ∃ W, W = wc := ⟨_, rfl⟩
    subst hW12
    clear y11 y11' d7 d9 d10 d11 d12 hsg0 hsg1 n97 n107 n117 n77 b12 b12'
    have hLp : 1 ≤ L := by
      have := Nat.pow_pos (n := k) (show 0 < 10 by omega)
      have := HLB.out.1
      omega
    have hHp : 1 ≤ H := by rw [hHr]; split <;> omega
    have lH : (zl (H : Int)).length ≤ 300000 := by
      have h9 : H ≤ a + 1 := by
        have h8 : L ≤ a := by rw [HLA.out]; exact Nat.div_le_self a b
        rw [hHr]; split <;> omega
      have h7 : (decD L).length ≤ 2000 := Nat.le_trans (decD_len k L HLB.out.2) (by omega)
      have h6 : H ≤ 10 ^ (k + 1) := by rw [hHr]; have := HLB.out.2; split <;> omega
      exact Nat.le_trans (zl_ten_le h6) (by omega)
    have dL : (decD L).length ≤ 2000 := Nat.le_trans (decD_len k L HLB.out.2) (by omega)
    have dH : (decD H).length ≤ 2000 := by
      have h6 : H < 10 ^ (k + 1 + 1) := by
        have h5 : H ≤ 10 ^ (k + 1) := by rw [hHr]; have := HLB.out.2; split <;> omega
        rw [Nat.pow_succ]; have := Nat.pow_pos (n := k + 1) (show 0 < 10 by omega); omega
      exact Nat.le_trans (decD_len (k + 1) H h6) (by omega)
    have TL := hid (fun v w h c7 cx => tellS_any L E f v g7 g1 (pd - k) x w hLp h (by omega) c7 cx HXX.out hf hE2 hr (by omega) dL)
    have TH := hid (fun v w h c7 cx => tellS_any H E f v g7 g1 (pd - k) x w hHp h (by omega) c7 cx HXX.out hf hE2 hr (by omega) dH)
    obtain ⟨l, hl⟩ : ∃ l, l = fitP E f L (pd - k) := ⟨_, rfl⟩
    obtain ⟨h, hh⟩ : ∃ l, l = fitP E f H (pd - k) := ⟨_, rfl⟩
    rw [← hl] at TL
    rw [← hh] at TH
    obtain ⟨-, -, k3, k4⟩ := HREF.out a b hb0 HAB.out l h (by rw [hl, HLL.out]) (by rw [hh, HHH.out])
    have HS := hid k3
    have HZ := hid (show shZ D E f k pd = if (!h || (l && (decide (2 * r < b) || (decide (2 * r = b) && decide (L % 2 = 0))))) = true then L else H by rw [k4, HR9.out, HLL.out, HHH.out])
    have LRB := hid (And.intro lr (And.intro lb lL))
    clear k3 k4 hl hh HREF HAB hHp lH dL dH hLp hHr hb0 la lb lL lr
    obtain ⟨a10, c10', l10, n10⟩ := id q10
    obtain ⟨i0, i1, -⟩ := id l10
    have zd10 : ZD 3 W12 (L : Int) (.agg #[.bool (zneg (L : Int)), .slice a10 (zl (L : Int)).length c10']) := ⟨_, _, rfl, n10⟩
    go_upto_region 13 with (go_at_call 148; (with_reducible refine (TL.out _ _ zd10 q7 (CX.out _ y12)).mono ?_); rintro en w13 ⟨rfl, hb13⟩)
    have y13 := below_trans y12 hb13
    have y13' := below_trans y12' hb13
    replace q7 := (hb13.cell (World.block_lt_of_cell? _ _ q7)).trans q7
    replace q9 := q9.below hb13
    replace q10 := q10.below hb13
    replace q11 := q11.below hb13
    replace q12 := q12.below hb13
    clear i0 i1 l10 n10 zd10 y12 y12' hb13 TL
    obtain ⟨a12, c12', l12, n12⟩ := id q12
    obtain ⟨i0, i1, -⟩ := id l12
    have zd12 : ZD 3 w13 (H : Int) (.agg #[.bool (zneg (H : Int)), .slice a12 (zl (H : Int)).length c12']) := ⟨_, _, rfl, n12⟩
    go_upto_region 14 with (go_at_call 148; (with_reducible refine (TH.out _ _ zd12 q7 (CX.out _ y13)).mono ?_); rintro en w14 ⟨rfl, hb14⟩)
    obtain ⟨W14, hW14⟩ : ∃ W, W = w14 := ⟨_, rfl⟩
    subst hW14
    have y14 := below_trans y13 hb14
    have y14' := below_trans y13' hb14
    replace q9 := q9.below hb14
    replace q10 := q10.below hb14
    replace q11 := q11.below hb14
    clear i0 i1 l12 n12 zd12 y13 y13' hb14 TH q7 q12
    obtain ⟨hc, hhc⟩ : ∃ c, c = cmpI ((2 * r : Nat) : Int) (b : Int) := ⟨_, rfl⟩
    have ZA := hid (fun v u w h1 h2 => zaddD v u (r : Int) (r : Int) w h1 h2 (by have := LRB.out.1; omega) (by have := LRB.out.1; omega))
    have ZC := hid (fun v u w h1 h2 => by
      have h9 := zcmpD v u ((r : Int) + (r : Int)) (b : Int) w h1 h2
      rwa [show (r : Int) + (r : Int) = ((2 * r : Nat) : Int) by omega, ← hhc] at h9)
    have D1 := hid (show decide (2 * r < b) = decide (hc < 0) by rw [decide_eq_decide, hhc, cmpI_ng]; omega)
    have D2 := hid (show decide (2 * r = b) = decide (hc = 0) by rw [decide_eq_decide, hhc, cmpI_eq_zero]; omega)
    have D3 := hid (show ((L : Int) % 2 == 0) = decide (L % 2 = 0) by rw [Bool.eq_iff_iff, beq_iff_eq, decide_eq_true_eq]; omega)
    have HCV := hid (show cmpI ((r : Int) + (r : Int)) (b : Int) = hc by rw [hhc]; congr 1; omega)
    obtain ⟨so, hso⟩ : ∃ c, c = cmpI ((L : Int) % 2) 0 := ⟨_, rfl⟩
    have SGO := hid (fun v w h => by
      have h9 := zsignD v ((L : Int) % 2) w h
      rwa [← hso] at h9)
    have D4 := hid (show (so == 0) = decide (L % 2 = 0) by rw [Bool.eq_iff_iff, beq_iff_eq, decide_eq_true_eq, hso, cmpI_eq_zero]; omega)
    obtain ⟨cd, hcd⟩ : ∃ c, c = (!h || (l && (decide (2 * r < b) || (decide (2 * r = b) && decide (L % 2 = 0))))) := ⟨_, rfl⟩
    have HCD := hid (show cd = (!h || (l && (decide (hc < 0) || (decide (hc = 0) && (so == 0))))) by rw [hcd, D1.out, D2.out, D4.out])
    rw [← hcd] at HZ
    have lr9 : (zl (r : Int)).length ≤ 100000000 := by have := LRB.out.1; omega
    have lb9 : (zl (b : Int)).length ≤ 100000000 := by have := LRB.out.2.1; omega
    have lL9 : (zl (L : Int)).length ≤ 1000000 := by have := LRB.out.2.2; omega
    have l29 : (zl (2 : Int)).length ≤ 1000000 := by decide
    have hSLe : ∃ S, S = stp (decD L) := ⟨_, rfl⟩
    obtain ⟨SL, hSL⟩ := hSLe
    rw [← hSL]
    have HSL := hid hSL
    clear hSL
    clear hhc hso hcd D1 D2 D3 D4 ZA ZC
    go_cut [73] (fun s73 wx => s73 = .bool (!l && !h) ∧ wx = W14)
    case first => as_aux_lemma =>
      clear HS HZ HCD HCV SGO
      cases l
      all_goals
        go_wp2_with fail
        go_meet
        exact ⟨rfl, rfl⟩
    case rest =>
    obtain ⟨rfl, rfl⟩ := hcut
    obtain ⟨W15, hW15⟩ : ∃ W, W = wc := ⟨_, rfl⟩
    subst hW15
    by_cases hau : (!l && !h) = true
    · have hSf : shS D E f k pd = false := by
        rw [HS.out]
        cases l
        · cases h
          · rfl
          · exact absurd hau (by simp)
        · exact absurd hau (by simp)
      have hkk : k < 1400 := by
        rcases Nat.lt_or_ge k 1400 with h9 | h9
        · exact h9
        · have := HKS.out (HKE.out (by omega))
          rw [hSf] at this; cases this
      have HREL := hid (show ∀ j, j < k + 1 → shS D E f j pd = false from fun j hj => by
        by_cases h9 : j = k
        · rw [h9]; exact hSf
        · exact HKK.out j (by omega))
      have wk9 : IntKind.i64.wrap ((k : Int) + 1 + 1) = (k : Int) + 1 + 1 := IntWalk.i64_in _ (by omega)
      rw [hau]
      clear hau hSf HKK HKE HKS HS HZ HCD HCV SGO
      go_wp2_with fail
      go_roundw
      case rel => exact ⟨k + 1, by go_num, by omega, HREL.out, y14'⟩
      case measure => simp [intOf]; omega
    · have hauf : (!l && !h) = false := eq_false_of_ne_true hau
      have hSt : shS D E f k pd = true := by
        rw [HS.out]
        cases l
        · cases h
          · exact absurd rfl hau
          · rfl
        · rfl
      have HSS := hid hSt
      rw [hauf]
      clear hau hauf hSt HKE HKS HS
      go_upto_region 15 with fail
      refine wp_region_grow 6 [74, 75, 76, 77, 78, 20] [Fact.z 3 ((r : Int)), Fact.z 3 ((r : Int)), Fact.z 3 (((r : Int)) + ((r : Int))), Fact.z 3 ((b : Int)), Fact.is (.int .i64 (hc)), Fact.is (.int .i64 (hc))] (by kernel_rfl) (by kernel_rfl) ⟨?o0, ?o1, ?o2, ?o3, ?o4, ?o5, trivial⟩ ?after
      case o0 => (refine StepOK.plain rfl ?_; intro ρ w1 R hρ hb hp hR; have e11 : ρ (.tmp 11) = .pointer (some ⟨g11, 0, none⟩) := hρ.tmp 11 rfl; obtain ⟨ya9, yc9, yj9, yn9⟩ := ZV.below q11 hb; obtain ⟨j90, j91, -⟩ := yj9; have hcon := hρ.con; have hfn := hρ.fn; clear hρ hp; unfold OpRun; go_simp; exact hR _ _ (Below.refl _ _) ⟨ya9, yc9, rfl, yn9⟩)
      case o1 => (refine StepOK.plain rfl ?_; intro ρ w1 R hρ hb hp hR; have e11 : ρ (.tmp 11) = .pointer (some ⟨g11, 0, none⟩) := hρ.tmp 11 rfl; obtain ⟨ya9, yc9, yj9, yn9⟩ := ZV.below q11 hb; obtain ⟨j90, j91, -⟩ := yj9; have hcon := hρ.con; have hfn := hρ.fn; clear hρ hp; unfold OpRun; go_simp; exact hR _ _ (Below.refl _ _) ⟨ya9, yc9, rfl, yn9⟩)
      case o2 => (refine StepOK.plain rfl ?_; intro ρ w1 R hρ hb hp hR; have f74 := hp 0 74 rfl rfl; have f75 := hp 1 75 rfl rfl; have hcon := hρ.con; have hfn := hρ.fn; clear hρ hp; unfold OpRun; go_simp; (refine (zaddD _ _ _ _ _ f74 f75 (by first | assumption | omega) (by first | assumption | omega)).mono ?_; rintro e wn ⟨v9, rfl, hz9, hbn⟩; exact ⟨_, rfl, hR _ _ hbn hz9⟩))
      case o3 => (refine StepOK.plain rfl ?_; intro ρ w1 R hρ hb hp hR; have e9 : ρ (.tmp 9) = .pointer (some ⟨g9, 0, none⟩) := hρ.tmp 9 rfl; obtain ⟨ya9, yc9, yj9, yn9⟩ := ZV.below q9 hb; obtain ⟨j90, j91, -⟩ := yj9; have hcon := hρ.con; have hfn := hρ.fn; clear hρ hp; unfold OpRun; go_simp; exact hR _ _ (Below.refl _ _) ⟨ya9, yc9, rfl, yn9⟩)
      case o4 => (refine StepOK.plain rfl ?_; intro ρ w1 R hρ hb hp hR; have f76 := hp 2 76 rfl rfl; have f77 := hp 3 77 rfl rfl; have h99 := zcmpD _ _ _ _ _ f76 f77; rw [HCV.out] at h99; have hcon := hρ.con; have hfn := hρ.fn; clear hρ hp; unfold OpRun; go_simp; (refine (h99).mono ?_; rintro e wn ⟨rfl, hbn⟩; exact ⟨_, rfl, hR _ _ hbn rfl⟩))
      case o5 => (refine StepOK.plain rfl ?_; intro ρ w1 R hρ hb hp hR; have e78 : ρ (.tmp 78) = _ := hp 4 78 rfl rfl; have hcon := hρ.con; have hfn := hρ.fn; clear hρ hp; unfold OpRun; go_simp; exact hR _ _ (Below.refl _ _) rfl)
      case after =>
        intro u wn hb hf
        have e20 : u 20 = _ := hf 5 20 (by omega) rfl
        clear hf
        simp only [putAll, Act.put, List.setIfInBounds_toArray, List.set_cons_zero, List.set_cons_succ, List.drop_succ_cons, List.drop_zero, List.drop_nil]
        rw [e20]
        replace q10 := q10.below hb
        have y15 := below_trans y14 hb
        obtain ⟨W16, hW16⟩ : ∃ W, W = wn := ⟨_, rfl⟩
        subst hW16
        clear q9 q11 y14 y14' hb e20 HCV
        go_upto_region 16 with fail
        refine wp_region_growL 8 5 [80, 81, 82, 79, 83, 84, 21, 22] [Fact.z 3 ((L : Int)), Fact.z 3 (2), Fact.z2 3 (((L : Int)) / (2)) (((L : Int)) % (2)), Fact.z2 3 (((L : Int)) / (2)) (((L : Int)) % (2)), Fact.z 3 (((L : Int)) / (2)), Fact.z 3 (((L : Int)) % (2)), Fact.z0 W16.heap.size 39, Fact.z0 W16.heap.size 39] [6, 7] (by kernel_rfl) (by kernel_rfl) rfl ⟨?o0, ?o1, ?o2, ?o3, ?o4, ?o5, ?o6, ?o7, trivial⟩ ?late (fun d _ _ _ _ h => by cases d <;> exact h) ?after
        case o0 => (refine StepOKF.plain rfl ?_; intro ρ w1 R hρ hb hp hR; have e10 : ρ (.tmp 10) = .pointer (some ⟨g10, 0, none⟩) := hρ.tmp 10 rfl; obtain ⟨ya9, yc9, yj9, yn9⟩ := ZV.below q10 hb; obtain ⟨j90, j91, -⟩ := yj9; replace hR := fun v w2 h1 h2 => hR v w2 h1 h2 (fun h => absurd h (by decide)); have hcon := hρ.con; have hfn := hρ.fn; clear hρ hp; unfold OpRun; go_simp; exact hR _ _ (Below.refl _ _) ⟨ya9, yc9, rfl, yn9⟩)
        case o1 => (refine StepOKF.plain rfl ?_; intro ρ w1 R hρ hb hp hR; replace hR := fun v w2 h1 h2 => hR v w2 h1 h2 (fun h => absurd h (by decide)); have hcon := hρ.con; have hfn := hρ.fn; clear hρ hp; unfold OpRun; go_simp; (refine (zND _ (by omega) (by omega) _).mono ?_; rintro e wn ⟨v9, rfl, hz9, hbn⟩; exact ⟨_, rfl, hR _ _ hbn hz9⟩))
        case o2 => (refine StepOKF.plain rfl ?_; intro ρ w1 R hρ hb hp hR; have f80 := hp 0 80 rfl rfl; have f81 := hp 1 81 rfl rfl; replace hR := fun v w2 h1 h2 => hR v w2 h1 h2 (fun h => absurd h (by decide)); have hcon := hρ.con; have hfn := hρ.fn; clear hρ hp; unfold OpRun; go_simp; (refine (zdivD _ _ _ _ _ f80 f81 (by first | assumption | omega) (by first | assumption | omega) (by first | assumption | omega)).mono ?_; rintro e wn ⟨v9, rfl, hz9, hbn⟩; exact ⟨_, rfl, hR _ _ hbn hz9⟩))
        case o3 => (refine StepOKF.plain rfl ?_; intro ρ w1 R hρ hb hp hR; have f82 := hp 2 82 rfl rfl; replace hR := fun v w2 h1 h2 => hR v w2 h1 h2 (fun h => absurd h (by decide)); have hcon := hρ.con; have hfn := hρ.fn; clear hρ hp; unfold OpRun; go_simp; exact hR _ _ (Below.refl _ _) f82)
        case o4 => (refine StepOKF.plain rfl ?_; intro ρ w1 R hρ hb hp hR; have f79 := hp 3 79 rfl rfl; replace hR := fun v w2 h1 h2 => hR v w2 h1 h2 (fun h => absurd h (by decide)); have hcon := hρ.con; have hfn := hρ.fn; clear hρ hp; unfold OpRun; go_simp; (obtain ⟨a97, b97, e97, h97, k97⟩ := ZD2.parts f79; rw [e97]; exact hR _ _ (Below.refl _ _) h97))
        case o5 => (refine StepOKF.plain rfl ?_; intro ρ w1 R hρ hb hp hR; have f79 := hp 3 79 rfl rfl; replace hR := fun v w2 h1 h2 => hR v w2 h1 h2 (fun h => absurd h (by decide)); have hcon := hρ.con; have hfn := hρ.fn; clear hρ hp; unfold OpRun; go_simp; (obtain ⟨a97, b97, e97, h97, k97⟩ := ZD2.parts f79; rw [e97]; exact hR _ _ (Below.refl _ _) k97))
        case o6 => (refine StepOKF.plain rfl ?_; intro ρ w1 R hρ hb hp hR; have hcon := hρ.con; have hfn := hρ.fn; clear hρ hp; unfold OpRun; go_simp; exact hR _ _ (below_alloc _ _) ⟨_, rfl, hb.size, ZL.made rfl⟩ (fun _ => ⟨_, rfl, Nat.le_refl _, by simp⟩))
        case o7 => (refine StepOKF.plain rfl ?_; intro ρ w1 R hρ hb hp hR; have hcon := hρ.con; have hfn := hρ.fn; clear hρ hp; unfold OpRun; go_simp; exact hR _ _ (below_alloc _ _) ⟨_, rfl, hb.size, ZL.made rfl⟩ (fun _ => ⟨_, rfl, Nat.le_refl _, by simp⟩))
        case late =>
          intro o ho
          simp only [List.getElem?_cons_succ, List.getElem?_cons_zero, Option.some.injEq] at ho
          subst ho
          refine ⟨rfl, ?_⟩
          intro ρ w1 hρ hb hp
          have f79 := hp 3 79 rfl rfl
          obtain ⟨a97, b97, e97, h97, k97⟩ := ZD2.parts f79
          refine ⟨_, ?_, k97⟩
          intro w2
          have hcon := hρ.con
          go_simp
          try rfl
        case after =>
          intro u wn hb hf hd
          have f83 := hf 4 83 (by omega) rfl
          have f84 := hf 5 84 (by omega) rfl
          have f21 := hf 6 21 (by omega) rfl
          have f22 := hf 7 22 (by omega) rfl
          have d21_22 : u 21 ≠ u 22 := hd 6 7 21 22 (by omega) (by omega) (by omega) rfl rfl rfl rfl
          clear hf hd
          simp only [putAll, Act.put, List.setIfInBounds_toArray, List.set_cons_zero, List.set_cons_succ, List.drop_succ_cons, List.drop_zero, List.drop_nil]
          obtain ⟨xa1, xc1, xe1, xn1⟩ := f83
          obtain ⟨xa2, xc2, xe2, xn2⟩ := f84
          obtain ⟨gv21, eg1, hg1, zz1⟩ := f21
          obtain ⟨gv22, eg2, hg2, zz2⟩ := f22
          have gne : gv21 ≠ gv22 := by intro h; apply d21_22; rw [eg1, eg2, h]
          rw [xe1, xe2, eg1, eg2]
          clear xe1 xe2 eg1 eg2 d21_22
          have zst := zv_store2 (by decide) hb hg1 hg2 gne zz1 zz2 xn1 xn2
          obtain ⟨k0, k1, kf0, kf1, -⟩ := id zz1
          obtain ⟨l0, l1, lf0, lf1, -⟩ := id zz2
          go_upto_region 17 with fail
          clear k0 k1 kf0 kf1 l0 l1 lf0 lf1 zz1 zz2 xn1 xn2 hb
          refine wp_worldZ (fun WW => Below _ _ WW ∧ ZV _ _ WW _ _ ∧ ZV _ _ WW _ _) zst ?_
          clear zst
          intro W17 ⟨y17, z21, z22⟩
          have yend := below_trans y15 y17
          clear z21 q10 y15 y17 hg1 hg2
          go_cut [102] (fun s102 wx => s102 = .bool cd ∧ Below W17.heap.size W17 wx)
          case first => as_aux_lemma =>
            obtain ⟨a22, c22, l22, n22⟩ := z22
            obtain ⟨i0, i1, -⟩ := id l22
            have zd22 : ZD 3 W17 ((L : Int) % 2) (.agg #[.bool (zneg ((L : Int) % 2)), .slice a22 (zl ((L : Int) % 2)).length c22]) := ⟨_, _, rfl, n22⟩
            have H0 := HCD.out
            clear HCD HZ
            cases h
            · have H5 := hid (show cd = true by rw [H0]; rfl)
              clear H0
              go_wp2_with fail
              go_meet
              exact ⟨by rw [H5.out], Below.refl _ _⟩
            · cases l
              · have H5 := hid (show cd = false by rw [H0]; rfl)
                clear H0
                go_wp2_with fail
                go_meet
                exact ⟨by rw [H5.out], Below.refl _ _⟩
              · by_cases p1 : hc < 0
                · have H5 := hid (show cd = true by rw [H0]; simp [p1])
                  clear H0
                  go_wp2_with fail
                  go_meet
                  exact ⟨by rw [H5.out], Below.refl _ _⟩
                · by_cases p2 : hc = 0
                  · have p3 : (hc == 0) = true := beq_iff_eq.2 p2
                    have H5 := hid (show cd = (so == 0) by rw [H0]; simp [p2])
                    clear H0 p2
                    cases hs9 : (so == 0)
                    all_goals
                      rw [hs9] at H5
                      go_wp2_with (go_at_call 47; (with_reducible refine (SGO.out _ _ zd22).mono ?_); rintro en w18 ⟨rfl, hb18⟩)
                      go_meet
                      exact ⟨by rw [H5.out], hb18⟩
                  · have p3 : (hc == 0) = false := beq_eq_false_iff_ne.2 p2
                    have H5 := hid (show cd = false by rw [H0]; simp [p1, p2])
                    clear H0 p2
                    go_wp2_with fail
                    go_meet
                    exact ⟨by rw [H5.out], Below.refl _ _⟩
          case rest =>
            obtain ⟨rfl, y18⟩ := hcut
            cases cd
            · have H5 := hid (show shZ D E f k pd = H from HZ.out)
              have HX := hid (show shX D E f k pd = pd - k + (((decD H).length - (stp (decD H)).length : Nat) : Int) by unfold shX; rw [H5.out])
              clear HZ HCD SGO z22
              go_wp2_with fail
              go_ret2
              exact ⟨k, HKK.out, HSS.out, by rw [H5.out, HX.out]; rfl, below_trans (below_trans y2 yend) y18⟩
            · have H5 := hid (show shZ D E f k pd = L from HZ.out)
              have HX := hid (show shX D E f k pd = pd - k + (((decD L).length - (stp (decD L)).length : Nat) : Int) by unfold shX; rw [H5.out])
              clear HZ HCD SGO z22
              go_wp2_with fail
              go_ret2
              exact ⟨k, HKK.out, HSS.out, by rw [H5.out, HX.out, ← HSL.out]; rfl, below_trans (below_trans y2 yend) y18⟩
end Go.Proofs.YthaelmnblgollaaGreatDoor
