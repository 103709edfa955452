/- DyadSums: the law's walk. -/
import Derived.Test.YteaakbeemhmciaaDoorTd
import Derived.Test.YteaakbeemhmciaaDoorQm
set_option linter.unusedVariables false
set_option linter.unusedSimpArgs false
namespace Go.Ulp
open Go.RowKit
/-- a variable of type Dyad that holds D -/
def DV (t : TypeId) (w : World) (g : Nat) (D : Dy) : Prop := ∃ am cm, QL t w g (decide (D.1 < 0)) (.slice am (limbs D.1.natAbs).length cm) D.2 ∧ Ns .u32 w am cm (limbs D.1.natAbs)
theorem DV.below {t : TypeId} {w w' : World} {g : Nat} {D : Dy} (h : DV t w g D) (hb : Below w.heap.size w w') : DV t w' g D := by
  obtain ⟨am, cm, h1, h2⟩ := h; exact ⟨am, cm, h1.below hb, h2.below hb⟩
theorem QL.put {t : TypeId} {w : World} {g : Nat} {n : Bool} {v : Value} {k : Int} (h : QL t w g n v k) (n' : Bool) (v' : Value) (k' : Int) :
    QL t (((w.setCell ⟨g, 0, none⟩ (.bool n')).setCell ⟨g, 1, none⟩ v').setCell ⟨g, 2, none⟩ (.int .i64 k')) g n' v' k' := by
  have h1 := (h.set0D n').set1D v'
  refine ⟨⟨(cell_set_ne (by omega)).trans h1.1.1, (cell_set_ne (by omega)).trans h1.1.2.1, ?_, ?_, ?_⟩, ?_, ?_⟩
  · rw [frozen_setCell]; exact h1.1.2.2.1
  · rw [frozen_setCell]; exact h1.1.2.2.2.1
  · exact h1.1.2.2.2.2.setCell _ _
  · exact World.cell?_setCell_same _ _ _ ((cell_set_ne (by omega)).trans ((cell_set_ne (by omega)).trans h.2.1))
  · rw [frozen_setCell]; exact h1.2.2
theorem DV.put {t : TypeId} {w : World} {g : Nat} {n : Bool} {v : Value} {k : Int} {D : Dy} {am : Option Addr} {cm : Nat} (h : QL t w g n v k) (hN : Ns .u32 w am cm (limbs D.1.natAbs)) (hv : ∀ x, v ≠ .int .u32 x) :
    DV t (((w.setCell ⟨g, 0, none⟩ (.bool (decide (D.1 < 0)))).setCell ⟨g, 1, none⟩ (.slice am (limbs D.1.natAbs).length cm)).setCell ⟨g, 2, none⟩ (.int .i64 D.2)) g D :=
  ⟨am, cm, h.put _ _ _, hN.set3 h hv _ _ _⟩
theorem DV.none_form {t : TypeId} {w : World} {g : Nat} (h : DV t w g (0, 0)) : ∃ am cm, QL t w g false (.slice am 0 cm) 0 := by
  obtain ⟨am, cm, h1, -⟩ := h
  refine ⟨am, cm, ?_⟩
  have e : (limbs ((0 : Int), (0 : Int)).1.natAbs).length = 0 := by rw [show limbs ((0 : Int), (0 : Int)).1.natAbs = [] from limbs_zero]; rfl
  rw [e] at h1
  exact h1
/-- a fresh variable for a number over a power of two -/
def Fact.q0 (B : Nat) (t : TypeId) : Fact := ⟨fun v w => ∃ g, v = .pointer (some ⟨g, 0, none⟩) ∧ B ≤ g ∧ QL t w g false (.slice none 0 0) 0, fun _ _ _ h hb => by
  obtain ⟨g, h1, h2, h3⟩ := h; exact ⟨g, h1, h2, h3.below hb⟩⟩
theorem QL.far3 {t : TypeId} {w : World} {g : Nat} {n : Bool} {v : Value} {k : Int} (h : QL t w g n v k) {b : Nat} (hne : g ≠ b) (u0 u1 u2 : Value) :
    QL t (((w.setCell ⟨b, 0, none⟩ u0).setCell ⟨b, 1, none⟩ u1).setCell ⟨b, 2, none⟩ u2) g n v k := ((h.farD _ _ hne).farD _ _ hne).farD _ _ hne
theorem Nz.set3Q {t e : TypeId} {w : World} {ao : Option Addr} {cap : Nat} {L : List Nat} (h : Nz e w ao cap L) {g : Nat} {n : Bool} {v : Value} {k : Int} (z : QL t w g n v k) (hne : t ≠ e) (u0 u1 u2 : Value) :
    Nz e (((w.setCell ⟨g, 0, none⟩ u0).setCell ⟨g, 1, none⟩ u1).setCell ⟨g, 2, none⟩ u2) ao cap L :=
  ((h.setCell z.1.2.2.2.2 hne _ _).setCell (z.1.2.2.2.2.setCell _ _) hne _ _).setCell ((z.1.2.2.2.2.setCell _ _).setCell _ _) hne _ _
theorem Below.put3 {B : Nat} {w w' : World} (h : Below B w w') {g : Nat} (hg : B ≤ g) (u0 u1 u2 : Value) : Below B w (((w'.setCell ⟨g, 0, none⟩ u0).setCell ⟨g, 1, none⟩ u1).setCell ⟨g, 2, none⟩ u2) :=
  ((h.setCell hg _).setCell hg _).setCell hg _
theorem DC.mk2 {w : World} {n n' : Bool} {v v' : Value} {e e' : Int} {t : TypeId} : DC (w.alloc (.cells #[.bool n, v, .int .i64 e, .bool n', v', .int .i64 e'] t)) w.heap.size 0 n v e ∧ DC (w.alloc (.cells #[.bool n, v, .int .i64 e, .bool n', v', .int .i64 e'] t)) w.heap.size 3 n' v' e' := by
  refine ⟨⟨?_, ?_, ?_⟩, ⟨?_, ?_, ?_⟩⟩ <;> rw [World.cell?_alloc_at (hn := rfl)] <;> rfl
end Go.Ulp
namespace Go.Proofs.YteaakbeemhmciaaDoor
open Go.RowKit Go.Ulp
set_option linter.unusedVariables false
set_option linter.unusedSimpArgs false
set_option maxHeartbeats 4000000
set_option maxRecDepth 100000
theorem noDyad0_any (am : Option Addr) (cm : Nat) (w : World) : Calls Tryd.prog 23 #[.agg #[.bool false, .slice am 0 cm, .int .i64 0]] w fun e w' => e = .returned (.bool true) ∧ Below w.heap.size w w' := by
  have zA : QL 25 (w.alloc (.cells #[.bool false, .slice am 0 cm, .int .i64 0] 25)) w.heap.size false (.slice am 0 cm) 0 := QL.made rfl
  obtain ⟨⟨j0, j1, -, -, -⟩, j2, -⟩ := id zA
  go_enter Tryd.func23, Tryd.ntmps23
  go_wp2_with fail
  refine bodyPost_ret (by simp [results, Tryd.results23, go_sem]; try rfl) rfl ?_
  exact ⟨rfl, below_alloc _ _⟩
theorem dyadSums_walk (n0 : Bool) (L0 : List Nat) (a0 : Option Addr) (c0 : Nat) (x0 : Int) (n1 : Bool) (L1 : List Nat) (a1 : Option Addr) (c1 : Nat) (x1 : Int) (k : Int) (w : World)
    (h0 : Ns .u32 w a0 c0 L0) (hl0 : Lim L0) (wx0 : -9223372036854775808 ≤ x0 ∧ x0 ≤ 9223372036854775807) (h1 : Ns .u32 w a1 c1 L1) (hl1 : Lim L1) (wx1 : -9223372036854775808 ≤ x1 ∧ x1 ≤ 9223372036854775807) (wk : -9223372036854775808 ≤ k ∧ k ≤ 9223372036854775807) (hT : Tab 0 w) :
    Calls Tryd.prog 6 #[.agg #[.bool n0, .slice a0 L0.length c0, .int .i64 x0], .agg #[.bool n1, .slice a1 L1.length c1, .int .i64 x1], .int .i64 k] w fun e w' => e = .returned (.bool true) ∧ Below w.heap.size w w' := by
  have CM := hid (fun w h0 h1 t => pubCmp_any n0 a0 c0 L0 x0 n1 a1 c1 L1 x1 w h0 hl0 h1 hl1 t)
  have AD := hid (fun w h0 h1 t => pubAdd_any n0 a0 c0 L0 x0 n1 a1 c1 L1 x1 w h0 hl0 h1 hl1 t)
  have SU := hid (fun w h0 h1 t => pubSub_any n0 a0 c0 L0 x0 n1 a1 c1 L1 x1 w h0 hl0 h1 hl1 t)
  have MU := hid (fun w h0 h1 t => pubMul_any n0 a0 c0 L0 x0 n1 a1 c1 L1 x1 w h0 hl0 h1 hl1 t)
  have SH := hid (fun w h1 t => pubShift_any n1 a1 c1 L1 x1 k w h1 hl1 t)
  have R2 := hid (fun g w k0 h0 k1 h1 => dyadRight2_any g n0 a0 c0 L0 x0 n1 a1 c1 L1 x1 w k0 h0 hl0 k1 h1 hl1)
  have R1 := hid (fun g w k h => dyadRight1_any g n1 a1 c1 L1 x1 w k h hl1)
  have BT := hid (fun w => between_any k (-20000) 20000 w)
  have QA := hid (show dyadE n0 L0 x0 = 0 → ∀ w, Ns .u32 w a0 c0 L0 → Calls Tryd.prog 33 #[.agg #[.bool n0, .slice a0 L0.length c0, .int .i64 x0]] w fun e w' => RetQD 3 w (rightD n0 L0 x0) 400000 200000 e w' from fun h w k0 => by
    obtain ⟨b1, b2, b3, hL, -, -⟩ := dyadE_zero hl0 h
    have hlen : L0.length = (limbs (lval L0)).length := congrArg List.length hL
    have hr := right_nrm hl0 h
    rw [hL] at k0
    rw [hlen, ← hr]
    exact qof_any n0 (lval L0) a0 c0 x0 w k0 (by omega) (by omega))
  have QB := hid (show dyadE n1 L1 x1 = 0 → ∀ w, Ns .u32 w a1 c1 L1 → Calls Tryd.prog 33 #[.agg #[.bool n1, .slice a1 L1.length c1, .int .i64 x1]] w fun e w' => RetQD 3 w (rightD n1 L1 x1) 400000 200000 e w' from fun h w k0 => by
    obtain ⟨b1, b2, b3, hL, -, -⟩ := dyadE_zero hl1 h
    have hlen : L1.length = (limbs (lval L1)).length := congrArg List.length hL
    have hr := right_nrm hl1 h
    rw [hL] at k0
    rw [hlen, ← hr]
    exact qof_any n1 (lval L1) a1 c1 x1 w k0 (by omega) (by omega))
  have H0 := hid h0
  have H1 := hid h1
  have HT := hid hT
  have zA : QL 25 ((w.alloc (.cells #[.bool n0, .slice a0 L0.length c0, .int .i64 x0] 25)).alloc (.cells #[.bool n1, .slice a1 L1.length c1, .int .i64 x1] 25)) w.heap.size n0 (.slice a0 L0.length c0) x0 := (QL.made rfl).alloc _
  have zB : QL 25 ((w.alloc (.cells #[.bool n0, .slice a0 L0.length c0, .int .i64 x0] 25)).alloc (.cells #[.bool n1, .slice a1 L1.length c1, .int .i64 x1] 25)) (w.heap.size + 1) n1 (.slice a1 L1.length c1) x1 := QL.made (by first | omega | (simp; done) | (simp; omega))
  have yb : Below w.heap.size w ((w.alloc (.cells #[.bool n0, .slice a0 L0.length c0, .int .i64 x0] 25)).alloc (.cells #[.bool n1, .slice a1 L1.length c1, .int .i64 x1] 25)) := by (repeat' (first | (with_reducible assumption) | (with_reducible exact Below.refl _ _) | (with_reducible refine below_al ?_ _) | (with_reducible refine below_drewN ?_ _) | (with_reducible refine Below.drew ?_) | (with_reducible refine Below.alloc ?_ ?_ _) | (with_reducible refine Below.setCell ?_ ?_ _) | (refine below_trans ?_ (by assumption)) | go_size))
  -- the answers, by name
  have HSE := hid (show shE n1 L1 x1 k = if dyadE n1 L1 x1 = 0 then (if decide (-20000 ≤ k ∧ k ≤ 20000) = true then 0 else 1) else dyadE n1 L1 x1 by unfold shE; simp only [decide_eq_true_eq])
  have HE2 := hid (show dyadE2 (dyadE n0 L0 x0) (dyadE n1 L1 x1) = 0 → dyadE n0 L0 x0 = 0 ∧ dyadE n1 L1 x1 = 0 from dyadE2_zero)
  have HPS := hid (show ∀ E R, (E = 0 → pubD E R = bdD R ∧ pubE E R = bdE R) ∧ (E ≠ 0 → pubD E R = (0, 0) ∧ pubE E R = E) from fun E R => ⟨fun h => by unfold pubD pubE; rw [if_pos h, if_pos h]; exact ⟨rfl, rfl⟩, fun h => by unfold pubD pubE; rw [if_neg h, if_neg h]; exact ⟨rfl, rfl⟩⟩)
  have HCE := hid (show ∀ E, (E = 0 → cmpE E (rightD n0 L0 x0) (rightD n1 L1 x1) = cmpD (rightD n0 L0 x0) (rightD n1 L1 x1)) ∧ (E ≠ 0 → cmpE E (rightD n0 L0 x0) (rightD n1 L1 x1) = 0) from fun E => ⟨fun h => by unfold cmpE; rw [if_pos h], fun h => by unfold cmpE; rw [if_neg h]⟩)
  obtain ⟨kb, hkb0⟩ : ∃ b, b = decide (-20000 ≤ k ∧ k ≤ 20000) := ⟨_, rfl⟩
  rw [← hkb0] at BT HSE
  have HKB := hid hkb0.symm
  clear hkb0
  generalize shE n1 L1 x1 k = ES at *
  generalize dyadE2 (dyadE n0 L0 x0) (dyadE n1 L1 x1) = E2 at *
  generalize dyadE n0 L0 x0 = F0 at *
  generalize dyadE n1 L1 x1 = F1 at *
  have FA := hid (HPS.out E2 (addD (rightD n0 L0 x0) (rightD n1 L1 x1)))
  have FS := hid (HPS.out E2 (addD (rightD n0 L0 x0) (negD (rightD n1 L1 x1))))
  have FM := hid (HPS.out E2 (mulD (rightD n0 L0 x0) (rightD n1 L1 x1)))
  have FH := hid (HPS.out ES (shD (rightD n1 L1 x1) k))
  have FC := hid (HCE.out E2)
  generalize pubD E2 (addD (rightD n0 L0 x0) (rightD n1 L1 x1)) = PDA at *
  generalize pubE E2 (addD (rightD n0 L0 x0) (rightD n1 L1 x1)) = PEA at *
  generalize pubD E2 (addD (rightD n0 L0 x0) (negD (rightD n1 L1 x1))) = PDS at *
  generalize pubE E2 (addD (rightD n0 L0 x0) (negD (rightD n1 L1 x1))) = PES at *
  generalize pubD E2 (mulD (rightD n0 L0 x0) (rightD n1 L1 x1)) = PDM at *
  generalize pubE E2 (mulD (rightD n0 L0 x0) (rightD n1 L1 x1)) = PEM at *
  generalize pubD ES (shD (rightD n1 L1 x1) k) = PDH at *
  generalize pubE ES (shD (rightD n1 L1 x1) k) = PEH at *
  generalize cmpE E2 (rightD n0 L0 x0) (rightD n1 L1 x1) = CE at *
  clear h0 h1 hT HPS HCE
  go_enter Tryd.func6, Tryd.ntmps6
  go_upto_region 1 with fail
  obtain ⟨W0, hW0⟩ : ∃ W, W = ((w.alloc (.cells #[.bool n0, .slice a0 L0.length c0, .int .i64 x0] 25)).alloc (.cells #[.bool n1, .slice a1 L1.length c1, .int .i64 x1] 25)) := ⟨_, rfl⟩
  rw [← hW0] at zA zB yb ⊢
  clear hW0
  go_cut [7, 8] (fun s1 s2 wx => s1 = .int .i64 CE ∧ s2 = .int .i64 E2 ∧ Below W0.heap.size W0 wx)
  case first =>
    obtain ⟨⟨j0, j1, -, -, -⟩, j2, -⟩ := id zA
    obtain ⟨⟨i0, i1, -, -, -⟩, i2, -⟩ := id zB
    go_wp2_with (go_at_call 42; (with_reducible refine (CM.out _ (H0.out.below yb) (H1.out.below yb) (HT.out.below yb)).mono ?_); rintro en w2 ⟨rfl, hb2⟩)
    go_meet
    exact ⟨rfl, rfl, hb2⟩
  case rest =>
  obtain ⟨rfl, rfl, hbx⟩ := hcut
  replace zA := zA.below hbx
  replace zB := zB.below hbx
  replace yb := below_trans yb hbx
  clear CM hbx
  obtain ⟨W1, hW1⟩ : ∃ W, W = wc := ⟨_, rfl⟩
  subst hW1
  go_upto_region 2 with fail
  go_cut [9, 10] (fun s1 s2 wx => ∃ g, s1 = .pointer (some ⟨g, 0, none⟩) ∧ s2 = .int .i64 PEA ∧ DV 25 wx g PDA ∧ Below W1.heap.size W1 wx)
  case first =>
    obtain ⟨⟨j0, j1, -, -, -⟩, j2, -⟩ := id zA
    obtain ⟨⟨i0, i1, -, -, -⟩, i2, -⟩ := id zB
    go_wp2_with (go_at_call 43; (with_reducible refine (AD.out _ (H0.out.below yb) (H1.out.below yb) (HT.out.below yb)).mono ?_); rintro en w2 ⟨v2, rfl, ⟨a2, c2, rfl, hN2⟩, hb2⟩)
    go_meet
    exact ⟨_, rfl, rfl, ⟨_, _, QL.made rfl, hN2.below (below_alloc _ _)⟩, by (repeat' (first | (with_reducible assumption) | (with_reducible exact Below.refl _ _) | (with_reducible refine below_al ?_ _) | (with_reducible refine below_drewN ?_ _) | (with_reducible refine Below.drew ?_) | (with_reducible refine Below.alloc ?_ ?_ _) | (with_reducible refine Below.setCell ?_ ?_ _) | (refine below_trans ?_ (by assumption)) | go_size))⟩
  case rest =>
  obtain ⟨gA, rfl, rfl, dvA, hbx⟩ := hcut
  replace zA := zA.below hbx
  replace zB := zB.below hbx
  replace yb := below_trans yb hbx
  clear AD hbx
  obtain ⟨W2, hW2⟩ : ∃ W, W = wc := ⟨_, rfl⟩
  subst hW2
  go_upto_region 3 with fail
  go_cut [11, 12] (fun s1 s2 wx => ∃ g, s1 = .pointer (some ⟨g, 0, none⟩) ∧ s2 = .int .i64 PES ∧ DV 25 wx g PDS ∧ Below W2.heap.size W2 wx)
  case first =>
    obtain ⟨⟨j0, j1, -, -, -⟩, j2, -⟩ := id zA
    obtain ⟨⟨i0, i1, -, -, -⟩, i2, -⟩ := id zB
    go_wp2_with (go_at_call 44; (with_reducible refine (SU.out _ (H0.out.below yb) (H1.out.below yb) (HT.out.below yb)).mono ?_); rintro en w2 ⟨v2, rfl, ⟨a2, c2, rfl, hN2⟩, hb2⟩)
    go_meet
    exact ⟨_, rfl, rfl, ⟨_, _, QL.made rfl, hN2.below (below_alloc _ _)⟩, by (repeat' (first | (with_reducible assumption) | (with_reducible exact Below.refl _ _) | (with_reducible refine below_al ?_ _) | (with_reducible refine below_drewN ?_ _) | (with_reducible refine Below.drew ?_) | (with_reducible refine Below.alloc ?_ ?_ _) | (with_reducible refine Below.setCell ?_ ?_ _) | (refine below_trans ?_ (by assumption)) | go_size))⟩
  case rest =>
  obtain ⟨gS, rfl, rfl, dvS, hbx⟩ := hcut
  replace zA := zA.below hbx
  replace zB := zB.below hbx
  replace yb := below_trans yb hbx
  replace dvA := dvA.below hbx
  clear SU hbx
  obtain ⟨W3, hW3⟩ : ∃ W, W = wc := ⟨_, rfl⟩
  subst hW3
  go_upto_region 4 with fail
  go_cut [13, 14] (fun s1 s2 wx => ∃ g, s1 = .pointer (some ⟨g, 0, none⟩) ∧ s2 = .int .i64 PEM ∧ DV 25 wx g PDM ∧ Below W3.heap.size W3 wx)
  case first =>
    obtain ⟨⟨j0, j1, -, -, -⟩, j2, -⟩ := id zA
    obtain ⟨⟨i0, i1, -, -, -⟩, i2, -⟩ := id zB
    go_wp2_with (go_at_call 45; (with_reducible refine (MU.out _ (H0.out.below yb) (H1.out.below yb) (HT.out.below yb)).mono ?_); rintro en w2 ⟨v2, rfl, ⟨a2, c2, rfl, hN2⟩, hb2⟩)
    go_meet
    exact ⟨_, rfl, rfl, ⟨_, _, QL.made rfl, hN2.below (below_alloc _ _)⟩, by (repeat' (first | (with_reducible assumption) | (with_reducible exact Below.refl _ _) | (with_reducible refine below_al ?_ _) | (with_reducible refine below_drewN ?_ _) | (with_reducible refine Below.drew ?_) | (with_reducible refine Below.alloc ?_ ?_ _) | (with_reducible refine Below.setCell ?_ ?_ _) | (refine below_trans ?_ (by assumption)) | go_size))⟩
  case rest =>
  obtain ⟨gM, rfl, rfl, dvM, hbx⟩ := hcut
  replace zA := zA.below hbx
  replace zB := zB.below hbx
  replace yb := below_trans yb hbx
  replace dvA := dvA.below hbx
  replace dvS := dvS.below hbx
  clear MU hbx
  obtain ⟨W4, hW4⟩ : ∃ W, W = wc := ⟨_, rfl⟩
  subst hW4
  go_upto_region 5 with fail
  go_cut [15, 16] (fun s1 s2 wx => ∃ g, s1 = .pointer (some ⟨g, 0, none⟩) ∧ s2 = .int .i64 PEH ∧ DV 25 wx g PDH ∧ Below W4.heap.size W4 wx)
  case first =>
    obtain ⟨⟨j0, j1, -, -, -⟩, j2, -⟩ := id zA
    obtain ⟨⟨i0, i1, -, -, -⟩, i2, -⟩ := id zB
    go_wp2_with (go_at_call 46; (with_reducible refine (SH.out _ (H1.out.below yb) (HT.out.below yb)).mono ?_); rintro en w2 ⟨v2, rfl, ⟨a2, c2, rfl, hN2⟩, hb2⟩)
    go_meet
    exact ⟨_, rfl, rfl, ⟨_, _, QL.made rfl, hN2.below (below_alloc _ _)⟩, by (repeat' (first | (with_reducible assumption) | (with_reducible exact Below.refl _ _) | (with_reducible refine below_al ?_ _) | (with_reducible refine below_drewN ?_ _) | (with_reducible refine Below.drew ?_) | (with_reducible refine Below.alloc ?_ ?_ _) | (with_reducible refine Below.setCell ?_ ?_ _) | (refine below_trans ?_ (by assumption)) | go_size))⟩
  case rest =>
  obtain ⟨gH, rfl, rfl, dvH, hbx⟩ := hcut
  replace zA := zA.below hbx
  replace zB := zB.below hbx
  replace yb := below_trans yb hbx
  replace dvA := dvA.below hbx
  replace dvS := dvS.below hbx
  replace dvM := dvM.below hbx
  clear SH hbx
  obtain ⟨W5, hW5⟩ : ∃ W, W = wc := ⟨_, rfl⟩
  subst hW5
  go_upto_region 6 with fail
  go_cut [17] (fun s1 wx => s1 = .int .i64 E2 ∧ Below W5.heap.size W5 wx)
  case first =>
    obtain ⟨⟨j0, j1, -, -, -⟩, j2, -⟩ := id zA
    obtain ⟨⟨i0, i1, -, -, -⟩, i2, -⟩ := id zB
    go_wp2_with (go_at_call 19; (with_reducible refine (R2.out _ _ DC.mk2.1 (H0.out.below (below_trans yb (below_alloc _ _))) DC.mk2.2 (H1.out.below (below_trans yb (below_alloc _ _)))).mono ?_); rintro e w5 ⟨rfl, hb5⟩)
    go_meet
    exact ⟨rfl, by (repeat' (first | (with_reducible assumption) | (with_reducible exact Below.refl _ _) | (with_reducible refine below_al ?_ _) | (with_reducible refine below_drewN ?_ _) | (with_reducible refine Below.drew ?_) | (with_reducible refine Below.alloc ?_ ?_ _) | (with_reducible refine Below.setCell ?_ ?_ _) | (refine below_trans ?_ (by assumption)) | go_size))⟩
  case rest =>
  obtain ⟨rfl, hbx⟩ := hcut
  replace zA := zA.below hbx
  replace zB := zB.below hbx
  replace yb := below_trans yb hbx
  replace dvA := dvA.below hbx
  replace dvS := dvS.below hbx
  replace dvM := dvM.below hbx
  replace dvH := dvH.below hbx
  obtain ⟨W6, hW6⟩ : ∃ W, W = wc := ⟨_, rfl⟩
  subst hW6
  clear R2 hbx
  go_upto_region 7 with fail
  go_cut [18] (fun s1 wx => s1 = .int .i64 F1 ∧ Below W6.heap.size W6 wx)
  case first =>
    obtain ⟨⟨i0, i1, -, -, -⟩, i2, -⟩ := id zB
    go_wp2_with (go_at_call 19; (with_reducible refine (R1.out _ _ DC.mk1 (H1.out.below (below_trans yb (below_alloc _ _)))).mono ?_); rintro e w5 ⟨rfl, hb5⟩)
    go_meet
    exact ⟨rfl, by (repeat' (first | (with_reducible assumption) | (with_reducible exact Below.refl _ _) | (with_reducible refine below_al ?_ _) | (with_reducible refine below_drewN ?_ _) | (with_reducible refine Below.drew ?_) | (with_reducible refine Below.alloc ?_ ?_ _) | (with_reducible refine Below.setCell ?_ ?_ _) | (refine below_trans ?_ (by assumption)) | go_size))⟩
  case rest =>
  obtain ⟨rfl, hbx⟩ := hcut
  replace zA := zA.below hbx
  replace zB := zB.below hbx
  replace yb := below_trans yb hbx
  replace dvA := dvA.below hbx
  replace dvS := dvS.below hbx
  replace dvM := dvM.below hbx
  replace dvH := dvH.below hbx
  obtain ⟨W7, hW7⟩ : ∃ W, W = wc := ⟨_, rfl⟩
  subst hW7
  clear R1 hbx
  go_upto_region 8 with fail
  go_cut [64] (fun s1 wx => s1 = .bool ((F1 == 0) && !kb) ∧ wx = W7)
  case first =>
    by_cases hz : F1 = 0
    · have hz2 : (F1 == 0) = true := beq_iff_eq.2 hz
      clear hz
      go_wp2_with (go_at_call 27; (with_reducible refine (BT.out _).mono ?_); rintro e w4 ⟨rfl, rfl⟩)
      go_meet
      exact ⟨by rw [hz2, Bool.true_and], rfl⟩
    · have hz2 : (F1 == 0) = false := beq_eq_false_iff_ne.2 hz
      clear hz
      go_wp2_with fail
      go_meet
      exact ⟨by rw [hz2]; rfl, rfl⟩
  case rest =>
  obtain ⟨rfl, rfl⟩ := hcut
  clear BT
  go_upto_if 64 with fail
  go_cut [18] (fun s1 wx => s1 = .int .i64 ES ∧ wx = wc)
  case first =>
    cases hb9 : ((F1 == 0) && !kb)
    · have H5 := hid (show ES = F1 by
        rw [HSE.out]
        by_cases h : F1 = 0
        · rw [if_pos h]
          rw [beq_iff_eq.2 h, Bool.true_and] at hb9
          rw [if_pos (by simpa using hb9)]; omega
        · rw [if_neg h])
      clear hb9
      go_wp2_with fail
      go_meet
      exact ⟨by rw [H5.out], rfl⟩
    · have H5 := hid (show ES = 1 by
        rw [Bool.and_eq_true, beq_iff_eq] at hb9
        rw [HSE.out, if_pos hb9.1, if_neg (by have := hb9.2; simpa using this)])
      clear hb9
      go_wp2_with fail
      go_meet
      exact ⟨by rw [H5.out], rfl⟩
  case rest =>
  obtain ⟨rfl, rfl⟩ := hcut
  go_upto_region 10 with fail
  go_cut [66] (fun s1 wx => s1 = .bool (ES != 0) ∧ wx = wc)
  case first =>
    go_wp2_with fail
    go_meet
    exact ⟨rfl, rfl⟩
  case rest =>
  obtain ⟨rfl, rfl⟩ := hcut
  obtain ⟨W8, hW8⟩ : ∃ W, W = wc := ⟨_, rfl⟩
  subst hW8
  go_upto_if 66 with fail
  go_cut [] (fun wx => Below W8.heap.size W8 wx)
  case first =>
    by_cases hz : ES = 0
    · have hq : F1 = 0 := by
        have h9 := HSE.out
        by_cases h : F1 = 0
        · exact h
        · rw [if_neg h, hz] at h9; exact absurd h9.symm h
      have hkb : kb = true := by
        have h9 := HSE.out
        rw [if_pos hq, hz] at h9
        cases kb
        · simp at h9
        · rfl
      have QB2 := hid (QB.out hq)
      have hk := of_decide_eq_true (HKB.out.trans hkb)
      have QS := hid (fun v w h => qshift_any v (rightD n1 L1 x1) 400000 200000 k w h (by omega) (by omega) (by omega) (by omega))
      have TL := hid (show ∀ u w v, VD w PDH v → QD 3 w (shD (rightD n1 L1 x1) k) (400000 + 400000) 400000 u → Calls Tryd.prog 24 #[v, .int .i64 PEH, u] w fun e w' => e = .returned (.bool true) ∧ Below w.heap.size w w' from fun u w v k0 k1 => by
        obtain ⟨e1, e2⟩ := FH.out.1 hz
        rw [e2]; rw [e1] at k0
        exact told_any v u _ _ _ w k0 k1 (by omega) (by omega))
      subst hz
      obtain ⟨ah, ch, zH, hNH⟩ := id dvH
      have HVH := hid (show ∀ w', Below W8.heap.size W8 w' → VD w' PDH (.agg #[.bool (decide (PDH.1 < 0)), .slice ah (limbs PDH.1.natAbs).length ch, .int .i64 PDH.2]) from fun w' hb => ⟨ah, ch, rfl, hNH.below hb⟩)
      generalize decide (PDH.1 < 0) = nH at *
      generalize shD (rightD n1 L1 x1) k = SD at *
      clear hNH dvH hq hkb hk FA FS FM FC FH QA QB dvA dvS dvM zA HE2 HSE HKB H0 HT
      go_upto_region 13 with fail
      refine wp_region_grow 8 [75, 76, 77, 78, 79, 80, 81, 82] [Fact.is (.agg #[.bool nH, .slice ah (limbs PDH.1.natAbs).length ch, .int .i64 PDH.2]), Fact.is (.int .i64 PEH), Fact.is (.agg #[.bool n1, .slice a1 L1.length c1, .int .i64 x1]), Fact.q 3 (rightD n1 L1 x1) 400000 200000, Fact.is (.int .i64 k), Fact.q 3 SD (400000 + 400000) 400000, Fact.is (.bool true), Fact.is (.bool false)] (by kernel_rfl) (by kernel_rfl) ⟨?o0, ?o1, ?o2, ?o3, ?o4, ?o5, ?o6, ?o7, trivial⟩ ?after
      case o0 => (refine StepOK.plain rfl ?_; intro ρ w1 R hρ hb hp hR; have e15 : ρ (.tmp 15) = .pointer (some ⟨gH, 0, none⟩) := hρ.tmp 15 rfl; obtain ⟨⟨j0, j1, -, -, -⟩, j2, -⟩ := zH.below hb; have hcon := hρ.con; have hfn := hρ.fn; clear hρ hp; unfold OpRun; go_simp; exact hR _ _ (Below.refl _ _) rfl)
      case o1 => (refine StepOK.plain rfl ?_; intro ρ w1 R hρ hb hp hR; have e16 : ρ (.tmp 16) = .int .i64 PEH := hρ.tmp 16 rfl; have hcon := hρ.con; have hfn := hρ.fn; clear hρ hp; unfold OpRun; go_simp; exact hR _ _ (Below.refl _ _) rfl)
      case o2 => (refine StepOK.plain rfl ?_; intro ρ w1 R hρ hb hp hR; have e4 : ρ (.tmp 4) = .pointer (some ⟨w.heap.size + 1, 0, none⟩) := hρ.tmp 4 rfl; obtain ⟨⟨j0, j1, -, -, -⟩, j2, -⟩ := zB.below hb; have hcon := hρ.con; have hfn := hρ.fn; clear hρ hp; unfold OpRun; go_simp; exact hR _ _ (Below.refl _ _) rfl)
      case o3 => (refine StepOK.plain rfl ?_; intro ρ w1 R hρ hb hp hR; have e77 : ρ (.tmp 77) = _ := hp 2 77 rfl rfl; have hcon := hρ.con; have hfn := hρ.fn; clear hρ hp; unfold OpRun; go_simp; (refine (QB2.out _ (H1.out.below (below_trans yb hb))).mono ?_; rintro e wn ⟨v9, rfl, hv9, hbn⟩; exact ⟨_, rfl, hR _ _ hbn hv9⟩))
      case o4 => (refine StepOK.plain rfl ?_; intro ρ w1 R hρ hb hp hR; have e2 : ρ (.tmp 2) = .int .i64 k := hρ.tmp 2 rfl; have hcon := hρ.con; have hfn := hρ.fn; clear hρ hp; unfold OpRun; go_simp; exact hR _ _ (Below.refl _ _) rfl)
      case o5 => (refine StepOK.plain rfl ?_; intro ρ w1 R hρ hb hp hR; have f78 := hp 3 78 rfl rfl; have e79 : ρ (.tmp 79) = _ := hp 4 79 rfl rfl; have hcon := hρ.con; have hfn := hρ.fn; clear hρ hp; unfold OpRun; go_simp; (refine (QS.out _ _ f78).mono ?_; rintro e wn ⟨v9, rfl, hv9, hbn⟩; exact ⟨_, rfl, hR _ _ hbn hv9⟩))
      case o6 => (refine StepOK.plain rfl ?_; intro ρ w1 R hρ hb hp hR; have e75 : ρ (.tmp 75) = _ := hp 0 75 rfl rfl; have e76 : ρ (.tmp 76) = _ := hp 1 76 rfl rfl; have f80 := hp 5 80 rfl rfl; have hcon := hρ.con; have hfn := hρ.fn; clear hρ hp; unfold OpRun; go_simp; (refine (TL.out _ _ _ (HVH.out _ hb) f80).mono ?_; rintro e wn ⟨rfl, hbn⟩; exact ⟨_, rfl, hR _ _ hbn rfl⟩))
      case o7 => (refine StepOK.plain rfl ?_; intro ρ w1 R hρ hb hp hR; have e81 : ρ (.tmp 81) = _ := hp 6 81 rfl rfl; have hcon := hρ.con; have hfn := hρ.fn; clear hρ hp; unfold OpRun; go_simp; exact hR _ _ (Below.refl _ _) rfl)
      case after =>
        intro u wn hb hf
        have e82 : u 82 = _ := hf 7 82 (by omega) rfl
        clear hf
        simp only [putAll, Act.put, List.setIfInBounds_toArray, List.set_cons_zero, List.set_cons_succ, List.drop_succ_cons, List.drop_zero, List.drop_nil]
        rw [e82]
        go_wp2_with fail
        go_meet
        exact hb
    · obtain ⟨e1, e2⟩ := FH.out.2 hz
      have hz2 : (ES != 0) = true := by simp [bne, hz]
      have hzz : (ES == ES) = true := beq_self_eq_true ES
      rw [e1] at dvH
      subst e2
      rw [hz2]
      obtain ⟨ah, ch, zH⟩ := dvH.none_form
      obtain ⟨⟨i0, i1, -, -, -⟩, i2, -⟩ := id zH
      clear hz hz2 e1 dvH
      go_wp2_with (go_at_call 23; (refine (noDyad0_any _ _ _).mono ?_); rintro e w4 ⟨rfl, hb4⟩)
      go_meet
      exact hb4
  case rest =>
  replace zA := zA.below hcut
  replace zB := zB.below hcut
  replace yb := below_trans yb hcut
  replace dvA := dvA.below hcut
  replace dvS := dvS.below hcut
  replace dvM := dvM.below hcut
  obtain ⟨W9, hW9⟩ : ∃ W, W = wc := ⟨_, rfl⟩
  subst hW9
  clear hcut dvH FH HSE HKB
  go_upto_region 15 with fail
  go_cut [84] (fun s1 wx => s1 = .bool (E2 != 0) ∧ wx = W9)
  case first =>
    go_wp2_with fail
    go_meet
    exact ⟨rfl, rfl⟩
  case rest =>
  obtain ⟨rfl, rfl⟩ := hcut
  obtain ⟨W9, hW9⟩ : ∃ W, W = wc := ⟨_, rfl⟩
  subst hW9
  go_upto_if 84 with fail
  by_cases hz : E2 = 0
  · have hF := HE2.out hz
    have QA2 := hid (QA.out hF.1)
    have QB2 := hid (QB.out hF.2)
    have hce := FC.out.1 hz
    generalize rightD n0 L0 x0 = R0 at *
    generalize rightD n1 L1 x1 = R1 at *
    have TLA := hid (show ∀ u w v, VD w PDA v → QD 3 w (addD R0 R1) (max 400000 400000 + max 200000 200000 + 1) (max 200000 200000) u → Calls Tryd.prog 24 #[v, .int .i64 PEA, u] w fun e w' => e = .returned (.bool true) ∧ Below w.heap.size w w' from fun u w v k0 k1 => by
      obtain ⟨e1, e2⟩ := FA.out.1 hz
      rw [e2]; rw [e1] at k0
      exact told_any v u _ _ _ w k0 k1 (by omega) (by omega))
    have TLS := hid (show ∀ u w v, VD w PDS v → QD 3 w (addD R0 (negD R1)) (max 400000 400000 + max 200000 200000 + 1) (max 200000 200000) u → Calls Tryd.prog 24 #[v, .int .i64 PES, u] w fun e w' => e = .returned (.bool true) ∧ Below w.heap.size w w' from fun u w v k0 k1 => by
      obtain ⟨e1, e2⟩ := FS.out.1 hz
      rw [e2]; rw [e1] at k0
      exact told_any v u _ _ _ w k0 k1 (by omega) (by omega))
    have TLM := hid (show ∀ u w v, VD w PDM v → QD 3 w (mulD R0 R1) (400000 + 400000) (200000 + 200000) u → Calls Tryd.prog 24 #[v, .int .i64 PEM, u] w fun e w' => e = .returned (.bool true) ∧ Below w.heap.size w w' from fun u w v k0 k1 => by
      obtain ⟨e1, e2⟩ := FM.out.1 hz
      rw [e2]; rw [e1] at k0
      exact told_any v u _ _ _ w k0 k1 (by omega) (by omega))
    have QCM := hid (show ∀ v u w, QD 3 w R0 400000 200000 v → QD 3 w R1 400000 200000 u → Calls Tryd.prog 40 #[v, u] w fun e w' => e = .returned (.int .i64 CE) ∧ Below w.heap.size w w' from fun v u w k0 k1 => by
      rw [hce]; exact qcmp_any v u _ _ _ _ _ _ w k0 k1 (by omega) (by omega) (by omega) (by omega))
    have QAD := hid (fun v u w k0 k1 => qadd_any v u R0 R1 400000 200000 400000 200000 w k0 k1 (by omega) (by omega) (by omega) (by omega))
    have QAS := hid (fun v u w k0 k1 => qadd_any v u R0 (negD R1) 400000 200000 400000 200000 w k0 k1 (by omega) (by omega) (by omega) (by omega))
    have QNG := hid (fun u w k1 => qneg_any u R1 400000 200000 w k1 (by omega) (by omega))
    have QMU := hid (fun v u w k0 k1 => qmul_any v u R0 R1 400000 200000 400000 200000 w k0 k1 (by omega) (by omega) (by omega) (by omega))
    subst hz
    clear hF hce QA QB FA FS FM FC HE2
    go_upto_region 17 with fail
    refine wp_region_growF 6 [119, 120, 121, 122, 19, 20] [Fact.is (.agg #[.bool n0, .slice a0 L0.length c0, .int .i64 x0]), Fact.q 3 R0 400000 200000, Fact.is (.agg #[.bool n1, .slice a1 L1.length c1, .int .i64 x1]), Fact.q 3 R1 400000 200000, Fact.q0 W9.heap.size 42, Fact.q0 W9.heap.size 42] [4, 5] (by kernel_rfl) (by kernel_rfl) ⟨?o0, ?o1, ?o2, ?o3, ?o4, ?o5, trivial⟩ ?after
    case o0 => (refine StepOKF.plain rfl ?_; intro ρ w1 R hρ hb hp hR; have e3 : ρ (.tmp 3) = .pointer (some ⟨w.heap.size, 0, none⟩) := hρ.tmp 3 rfl; obtain ⟨⟨j0, j1, -, -, -⟩, j2, -⟩ := zA.below hb; replace hR := fun v w2 h1 h2 => hR v w2 h1 h2 (fun h => absurd h (by decide)); have hcon := hρ.con; have hfn := hρ.fn; clear hρ hp; unfold OpRun; go_simp; exact hR _ _ (Below.refl _ _) rfl)
    case o1 => (refine StepOKF.plain rfl ?_; intro ρ w1 R hρ hb hp hR; have e119 : ρ (.tmp 119) = _ := hp 0 119 rfl rfl; replace hR := fun v w2 h1 h2 => hR v w2 h1 h2 (fun h => absurd h (by decide)); have hcon := hρ.con; have hfn := hρ.fn; clear hρ hp; unfold OpRun; go_simp; (refine (QA2.out _ (H0.out.below (below_trans yb hb))).mono ?_; rintro e wn ⟨v9, rfl, hv9, hbn⟩; exact ⟨_, rfl, hR _ _ hbn hv9⟩))
    case o2 => (refine StepOKF.plain rfl ?_; intro ρ w1 R hρ hb hp hR; have e4 : ρ (.tmp 4) = .pointer (some ⟨w.heap.size + 1, 0, none⟩) := hρ.tmp 4 rfl; obtain ⟨⟨j0, j1, -, -, -⟩, j2, -⟩ := zB.below hb; replace hR := fun v w2 h1 h2 => hR v w2 h1 h2 (fun h => absurd h (by decide)); have hcon := hρ.con; have hfn := hρ.fn; clear hρ hp; unfold OpRun; go_simp; exact hR _ _ (Below.refl _ _) rfl)
    case o3 => (refine StepOKF.plain rfl ?_; intro ρ w1 R hρ hb hp hR; have e121 : ρ (.tmp 121) = _ := hp 2 121 rfl rfl; replace hR := fun v w2 h1 h2 => hR v w2 h1 h2 (fun h => absurd h (by decide)); have hcon := hρ.con; have hfn := hρ.fn; clear hρ hp; unfold OpRun; go_simp; (refine (QB2.out _ (H1.out.below (below_trans yb hb))).mono ?_; rintro e wn ⟨v9, rfl, hv9, hbn⟩; exact ⟨_, rfl, hR _ _ hbn hv9⟩))
    case o4 => (refine StepOKF.plain rfl ?_; intro ρ w1 R hρ hb hp hR; have hcon := hρ.con; have hfn := hρ.fn; clear hρ hp; unfold OpRun; go_simp; exact hR _ _ (below_alloc _ _) ⟨_, rfl, hb.size, QL.made rfl⟩ (fun _ => ⟨_, rfl, Nat.le_refl _, by simp⟩))
    case o5 => (refine StepOKF.plain rfl ?_; intro ρ w1 R hρ hb hp hR; have hcon := hρ.con; have hfn := hρ.fn; clear hρ hp; unfold OpRun; go_simp; exact hR _ _ (below_alloc _ _) ⟨_, rfl, hb.size, QL.made rfl⟩ (fun _ => ⟨_, rfl, Nat.le_refl _, by simp⟩))
    case after =>
      intro u wn hb hf hd
      have f120 := hf 1 120 (by omega) rfl
      have f122 := hf 3 122 (by omega) rfl
      have f19 := hf 4 19 (by omega) rfl
      have f20 := hf 5 20 (by omega) rfl
      have d19_20 : u 19 ≠ u 20 := hd 4 5 19 20 (by omega) (by omega) (by omega) rfl rfl rfl rfl
      clear hf hd
      simp only [putAll, Act.put, List.setIfInBounds_toArray, List.set_cons_zero, List.set_cons_succ, List.drop_succ_cons, List.drop_zero, List.drop_nil]
      obtain ⟨xa, ma, qa, ca, e120, hNa, hDa⟩ := f120
      obtain ⟨xb, mb, qb, cb, e122, hNb, hDb⟩ := f122
      obtain ⟨ga, e19, hga, z19⟩ := f19
      obtain ⟨gb, e20, hgb, z20⟩ := f20
      have hab : ga ≠ gb := by intro h; apply d19_20; rw [e19, e20, h]
      have hba := hab.symm
      rw [e120, e122, e19, e20]
      clear e120 e122 e19 e20 d19_20 QA2 QB2
      obtain ⟨⟨a60, a61, af0, af1, as6⟩, a62, af2⟩ := id z19
      obtain ⟨⟨b70, b71, bf0, bf1, bs7⟩, b72, bf2⟩ := id z20
      go_upto_region 18 with fail
      have zQa := (z19.put (zneg xa) (.slice qa (zl xa).length ca) ma).far3 hab (.bool (zneg xb)) (.slice qb (zl xb).length cb) (.int .i64 mb)
      have zQb := (z20.far3 hba (.bool (zneg xa)) (.slice qa (zl xa).length ca) (.int .i64 ma)).put (zneg xb) (.slice qb (zl xb).length cb) mb
      have hNa2 := (hNa.set3Q z19 (by decide) (.bool (zneg xa)) (.slice qa (zl xa).length ca) (.int .i64 ma)).set3Q (z20.far3 hba (.bool (zneg xa)) (.slice qa (zl xa).length ca) (.int .i64 ma)) (by decide) (.bool (zneg xb)) (.slice qb (zl xb).length cb) (.int .i64 mb)
      have hNb2 := (hNb.set3Q z19 (by decide) (.bool (zneg xa)) (.slice qa (zl xa).length ca) (.int .i64 ma)).set3Q (z20.far3 hba (.bool (zneg xa)) (.slice qa (zl xa).length ca) (.int .i64 ma)) (by decide) (.bool (zneg xb)) (.slice qb (zl xb).length cb) (.int .i64 mb)
      have hbW := Below.put3 (Below.put3 hb hga (.bool (zneg xa)) (.slice qa (zl xa).length ca) (.int .i64 ma)) hgb (.bool (zneg xb)) (.slice qb (zl xb).length cb) (.int .i64 mb)
      obtain ⟨W10, hW10⟩ : ∃ W, W = (((((wn.setCell ⟨ga, 0, none⟩ (.bool (zneg xa))).setCell ⟨ga, 1, none⟩ (.slice qa (zl xa).length ca)).setCell ⟨ga, 2, none⟩ (.int .i64 ma)).setCell ⟨gb, 0, none⟩ (.bool (zneg xb))).setCell ⟨gb, 1, none⟩ (.slice qb (zl xb).length cb)).setCell ⟨gb, 2, none⟩ (.int .i64 mb) := ⟨_, rfl⟩
      rw [← hW10] at zQa zQb hNa2 hNb2 hbW ⊢
      have VQa := hid (show ∀ w', Below W10.heap.size W10 w' → QD 3 w' R0 400000 200000 (.agg #[.bool (zneg xa), .slice qa (zl xa).length ca, .int .i64 (ma : Int)]) from fun w' hb => ⟨xa, ma, qa, ca, rfl, hNa2.below hb, hDa⟩)
      have VQb := hid (show ∀ w', Below W10.heap.size W10 w' → QD 3 w' R1 400000 200000 (.agg #[.bool (zneg xb), .slice qb (zl xb).length cb, .int .i64 (mb : Int)]) from fun w' hb => ⟨xb, mb, qb, cb, rfl, hNb2.below hb, hDb⟩)
      replace dvA := dvA.below hbW
      replace dvS := dvS.below hbW
      replace dvM := dvM.below hbW
      have yb10 := below_trans yb hbW
      obtain ⟨dA, eA, zDA, hNA⟩ := dvA
      obtain ⟨dS, eS, zDS, hNS⟩ := dvS
      obtain ⟨dM, eM, zDM, hNM⟩ := dvM
      have HVA := hid (show ∀ w', Below W10.heap.size W10 w' → VD w' PDA (.agg #[.bool (decide (PDA.1 < 0)), .slice dA (limbs PDA.1.natAbs).length eA, .int .i64 PDA.2]) from fun w' hb => ⟨dA, eA, rfl, hNA.below hb⟩)
      have HVS := hid (show ∀ w', Below W10.heap.size W10 w' → VD w' PDS (.agg #[.bool (decide (PDS.1 < 0)), .slice dS (limbs PDS.1.natAbs).length eS, .int .i64 PDS.2]) from fun w' hb => ⟨dS, eS, rfl, hNS.below hb⟩)
      have HVM := hid (show ∀ w', Below W10.heap.size W10 w' → VD w' PDM (.agg #[.bool (decide (PDM.1 < 0)), .slice dM (limbs PDM.1.natAbs).length eM, .int .i64 PDM.2]) from fun w' hb => ⟨dM, eM, rfl, hNM.below hb⟩)
      clear hW10 hNa hNb hDa hDb hNa2 hNb2 hNA hNS hNM hbW z19 z20 a60 a61 a62 af0 af1 af2 as6 b70 b71 b72 bf0 bf1 bf2 bs7 zA zB yb hb hga hgb hab hba H0 H1 HT
      refine wp_region_grow 35 [123, 124, 125, 126, 127, 128, 129, 130, 131, 132, 133, 134, 135, 136, 137, 138, 139, 140, 141, 142, 143, 144, 145, 146, 147, 148, 149, 150, 151, 152, 153, 154, 155, 156, 6] [Fact.is (.int .i64 CE), Fact.is (.agg #[.bool (zneg xa), .slice qa (zl xa).length ca, .int .i64 (ma : Int)]), Fact.is (.agg #[.bool (zneg xb), .slice qb (zl xb).length cb, .int .i64 (mb : Int)]), Fact.is (.int .i64 CE), Fact.is (.bool true), Fact.is (.bool true), Fact.is (.int .i64 0), Fact.is (.bool true), Fact.is (.bool true), Fact.is (.bool true), Fact.is (.agg #[.bool (decide (PDA.1 < 0)), .slice dA (limbs PDA.1.natAbs).length eA, .int .i64 PDA.2]), Fact.is (.int .i64 PEA), Fact.is (.agg #[.bool (zneg xa), .slice qa (zl xa).length ca, .int .i64 (ma : Int)]), Fact.is (.agg #[.bool (zneg xb), .slice qb (zl xb).length cb, .int .i64 (mb : Int)]), Fact.q 3 (addD R0 R1) (max 400000 400000 + max 200000 200000 + 1) (max 200000 200000), Fact.is (.bool true), Fact.is (.bool true), Fact.is (.bool true), Fact.is (.agg #[.bool (decide (PDS.1 < 0)), .slice dS (limbs PDS.1.natAbs).length eS, .int .i64 PDS.2]), Fact.is (.int .i64 PES), Fact.is (.agg #[.bool (zneg xa), .slice qa (zl xa).length ca, .int .i64 (ma : Int)]), Fact.is (.agg #[.bool (zneg xb), .slice qb (zl xb).length cb, .int .i64 (mb : Int)]), Fact.q 3 (negD R1) 400000 200000, Fact.q 3 (addD R0 (negD R1)) (max 400000 400000 + max 200000 200000 + 1) (max 200000 200000), Fact.is (.bool true), Fact.is (.bool true), Fact.is (.bool true), Fact.is (.agg #[.bool (decide (PDM.1 < 0)), .slice dM (limbs PDM.1.natAbs).length eM, .int .i64 PDM.2]), Fact.is (.int .i64 PEM), Fact.is (.agg #[.bool (zneg xa), .slice qa (zl xa).length ca, .int .i64 (ma : Int)]), Fact.is (.agg #[.bool (zneg xb), .slice qb (zl xb).length cb, .int .i64 (mb : Int)]), Fact.q 3 (mulD R0 R1) (400000 + 400000) (200000 + 200000), Fact.is (.bool true), Fact.is (.bool true), Fact.is (.bool true)] (by kernel_rfl) (by kernel_rfl) ⟨?o0, ?o1, ?o2, ?o3, ?o4, ?o5, ?o6, ?o7, ?o8, ?o9, ?o10, ?o11, ?o12, ?o13, ?o14, ?o15, ?o16, ?o17, ?o18, ?o19, ?o20, ?o21, ?o22, ?o23, ?o24, ?o25, ?o26, ?o27, ?o28, ?o29, ?o30, ?o31, ?o32, ?o33, ?o34, trivial⟩ ?after
      case o0 => (refine StepOK.plain rfl ?_; intro ρ w1 R hρ hb hp hR; have e7 : ρ (.tmp 7) = .int .i64 CE := hρ.tmp 7 rfl; have hcon := hρ.con; have hfn := hρ.fn; clear hρ hp; unfold OpRun; go_simp; exact hR _ _ (Below.refl _ _) rfl)
      case o1 => (refine StepOK.plain rfl ?_; intro ρ w1 R hρ hb hp hR; have e19 : ρ (.tmp 19) = .pointer (some ⟨ga, 0, none⟩) := hρ.tmp 19 rfl; obtain ⟨⟨j0, j1, -, -, -⟩, j2, -⟩ := zQa.below hb; have hcon := hρ.con; have hfn := hρ.fn; clear hρ hp; unfold OpRun; go_simp; exact hR _ _ (Below.refl _ _) rfl)
      case o2 => (refine StepOK.plain rfl ?_; intro ρ w1 R hρ hb hp hR; have e20 : ρ (.tmp 20) = .pointer (some ⟨gb, 0, none⟩) := hρ.tmp 20 rfl; obtain ⟨⟨j0, j1, -, -, -⟩, j2, -⟩ := zQb.below hb; have hcon := hρ.con; have hfn := hρ.fn; clear hρ hp; unfold OpRun; go_simp; exact hR _ _ (Below.refl _ _) rfl)
      case o3 => (refine StepOK.plain rfl ?_; intro ρ w1 R hρ hb hp hR; have e124 : ρ (.tmp 124) = _ := hp 1 124 rfl rfl; have e125 : ρ (.tmp 125) = _ := hp 2 125 rfl rfl; have hcon := hρ.con; have hfn := hρ.fn; clear hρ hp; unfold OpRun; go_simp; (refine (QCM.out _ _ _ (VQa.out _ hb) (VQb.out _ hb)).mono ?_; rintro e wn ⟨rfl, hbn⟩; exact ⟨_, rfl, hR _ _ hbn rfl⟩))
      case o4 => (refine StepOK.plain rfl ?_; intro ρ w1 R hρ hb hp hR; have e123 : ρ (.tmp 123) = _ := hp 0 123 rfl rfl; have e126 : ρ (.tmp 126) = _ := hp 3 126 rfl rfl; have hcon := hρ.con; have hfn := hρ.fn; clear hρ hp; unfold OpRun; go_simp; exact hR _ _ (Below.refl _ _) rfl)
      case o5 => (refine StepOK.plain rfl ?_; intro ρ w1 R hρ hb hp hR; have e127 : ρ (.tmp 127) = _ := hp 4 127 rfl rfl; have hcon := hρ.con; have hfn := hρ.fn; clear hρ hp; unfold OpRun; go_simp; exact hR _ _ (Below.refl _ _) rfl)
      case o6 => (intro ρ w1 R hρ hb hp hR; have eg : ρ (.tmp 128) = .bool true := hp 5 128 rfl rfl; refine ⟨fun _ => ?_, fun hg => absurd hg (by simp [guardOf, eg])⟩; clear eg; have e8 : ρ (.tmp 8) = .int .i64 0 := hρ.tmp 8 rfl; have hcon := hρ.con; have hfn := hρ.fn; clear hρ hp; unfold OpRun; go_simp; exact hR _ _ (Below.refl _ _) rfl)
      case o7 => (intro ρ w1 R hρ hb hp hR; have eg : ρ (.tmp 128) = .bool true := hp 5 128 rfl rfl; refine ⟨fun _ => ?_, fun hg => absurd hg (by simp [guardOf, eg])⟩; clear eg; have e129 : ρ (.tmp 129) = _ := hp 6 129 rfl rfl; have hcon := hρ.con; have hfn := hρ.fn; clear hρ hp; unfold OpRun; go_simp; exact hR _ _ (Below.refl _ _) rfl)
      case o8 => (refine StepOK.plain rfl ?_; intro ρ w1 R hρ hb hp hR; have e128 : ρ (.tmp 128) = _ := hp 5 128 rfl rfl; have e130 : ρ (.tmp 130) = _ := hp 7 130 rfl rfl; have hcon := hρ.con; have hfn := hρ.fn; clear hρ hp; unfold OpRun; go_simp; exact hR _ _ (Below.refl _ _) rfl)
      case o9 => (refine StepOK.plain rfl ?_; intro ρ w1 R hρ hb hp hR; have e131 : ρ (.tmp 131) = _ := hp 8 131 rfl rfl; have hcon := hρ.con; have hfn := hρ.fn; clear hρ hp; unfold OpRun; go_simp; exact hR _ _ (Below.refl _ _) rfl)
      case o10 => (intro ρ w1 R hρ hb hp hR; have eg : ρ (.tmp 132) = .bool true := hp 9 132 rfl rfl; refine ⟨fun _ => ?_, fun hg => absurd hg (by simp [guardOf, eg])⟩; clear eg; have e9 : ρ (.tmp 9) = .pointer (some ⟨gA, 0, none⟩) := hρ.tmp 9 rfl; obtain ⟨⟨j0, j1, -, -, -⟩, j2, -⟩ := zDA.below hb; have hcon := hρ.con; have hfn := hρ.fn; clear hρ hp; unfold OpRun; go_simp; exact hR _ _ (Below.refl _ _) rfl)
      case o11 => (intro ρ w1 R hρ hb hp hR; have eg : ρ (.tmp 132) = .bool true := hp 9 132 rfl rfl; refine ⟨fun _ => ?_, fun hg => absurd hg (by simp [guardOf, eg])⟩; clear eg; have e10 : ρ (.tmp 10) = .int .i64 PEA := hρ.tmp 10 rfl; have hcon := hρ.con; have hfn := hρ.fn; clear hρ hp; unfold OpRun; go_simp; exact hR _ _ (Below.refl _ _) rfl)
      case o12 => (intro ρ w1 R hρ hb hp hR; have eg : ρ (.tmp 132) = .bool true := hp 9 132 rfl rfl; refine ⟨fun _ => ?_, fun hg => absurd hg (by simp [guardOf, eg])⟩; clear eg; have e19 : ρ (.tmp 19) = .pointer (some ⟨ga, 0, none⟩) := hρ.tmp 19 rfl; obtain ⟨⟨j0, j1, -, -, -⟩, j2, -⟩ := zQa.below hb; have hcon := hρ.con; have hfn := hρ.fn; clear hρ hp; unfold OpRun; go_simp; exact hR _ _ (Below.refl _ _) rfl)
      case o13 => (intro ρ w1 R hρ hb hp hR; have eg : ρ (.tmp 132) = .bool true := hp 9 132 rfl rfl; refine ⟨fun _ => ?_, fun hg => absurd hg (by simp [guardOf, eg])⟩; clear eg; have e20 : ρ (.tmp 20) = .pointer (some ⟨gb, 0, none⟩) := hρ.tmp 20 rfl; obtain ⟨⟨j0, j1, -, -, -⟩, j2, -⟩ := zQb.below hb; have hcon := hρ.con; have hfn := hρ.fn; clear hρ hp; unfold OpRun; go_simp; exact hR _ _ (Below.refl _ _) rfl)
      case o14 => (intro ρ w1 R hρ hb hp hR; have eg : ρ (.tmp 132) = .bool true := hp 9 132 rfl rfl; refine ⟨fun _ => ?_, fun hg => absurd hg (by simp [guardOf, eg])⟩; clear eg; have e135 : ρ (.tmp 135) = _ := hp 12 135 rfl rfl; have e136 : ρ (.tmp 136) = _ := hp 13 136 rfl rfl; have hcon := hρ.con; have hfn := hρ.fn; clear hρ hp; unfold OpRun; go_simp; (refine (QAD.out _ _ _ (VQa.out _ hb) (VQb.out _ hb)).mono ?_; rintro e wn ⟨v9, rfl, hv9, hbn⟩; exact ⟨_, rfl, hR _ _ hbn hv9⟩))
      case o15 => (intro ρ w1 R hρ hb hp hR; have eg : ρ (.tmp 132) = .bool true := hp 9 132 rfl rfl; refine ⟨fun _ => ?_, fun hg => absurd hg (by simp [guardOf, eg])⟩; clear eg; have e133 : ρ (.tmp 133) = _ := hp 10 133 rfl rfl; have e134 : ρ (.tmp 134) = _ := hp 11 134 rfl rfl; have f137 := hp 14 137 rfl rfl; have hcon := hρ.con; have hfn := hρ.fn; clear hρ hp; unfold OpRun; go_simp; (refine (TLA.out _ _ _ (HVA.out _ hb) f137).mono ?_; rintro e wn ⟨rfl, hbn⟩; exact ⟨_, rfl, hR _ _ hbn rfl⟩))
      case o16 => (refine StepOK.plain rfl ?_; intro ρ w1 R hρ hb hp hR; have e132 : ρ (.tmp 132) = _ := hp 9 132 rfl rfl; have e138 : ρ (.tmp 138) = _ := hp 15 138 rfl rfl; have hcon := hρ.con; have hfn := hρ.fn; clear hρ hp; unfold OpRun; go_simp; exact hR _ _ (Below.refl _ _) rfl)
      case o17 => (refine StepOK.plain rfl ?_; intro ρ w1 R hρ hb hp hR; have e139 : ρ (.tmp 139) = _ := hp 16 139 rfl rfl; have hcon := hρ.con; have hfn := hρ.fn; clear hρ hp; unfold OpRun; go_simp; exact hR _ _ (Below.refl _ _) rfl)
      case o18 => (intro ρ w1 R hρ hb hp hR; have eg : ρ (.tmp 140) = .bool true := hp 17 140 rfl rfl; refine ⟨fun _ => ?_, fun hg => absurd hg (by simp [guardOf, eg])⟩; clear eg; have e11 : ρ (.tmp 11) = .pointer (some ⟨gS, 0, none⟩) := hρ.tmp 11 rfl; obtain ⟨⟨j0, j1, -, -, -⟩, j2, -⟩ := zDS.below hb; have hcon := hρ.con; have hfn := hρ.fn; clear hρ hp; unfold OpRun; go_simp; exact hR _ _ (Below.refl _ _) rfl)
      case o19 => (intro ρ w1 R hρ hb hp hR; have eg : ρ (.tmp 140) = .bool true := hp 17 140 rfl rfl; refine ⟨fun _ => ?_, fun hg => absurd hg (by simp [guardOf, eg])⟩; clear eg; have e12 : ρ (.tmp 12) = .int .i64 PES := hρ.tmp 12 rfl; have hcon := hρ.con; have hfn := hρ.fn; clear hρ hp; unfold OpRun; go_simp; exact hR _ _ (Below.refl _ _) rfl)
      case o20 => (intro ρ w1 R hρ hb hp hR; have eg : ρ (.tmp 140) = .bool true := hp 17 140 rfl rfl; refine ⟨fun _ => ?_, fun hg => absurd hg (by simp [guardOf, eg])⟩; clear eg; have e19 : ρ (.tmp 19) = .pointer (some ⟨ga, 0, none⟩) := hρ.tmp 19 rfl; obtain ⟨⟨j0, j1, -, -, -⟩, j2, -⟩ := zQa.below hb; have hcon := hρ.con; have hfn := hρ.fn; clear hρ hp; unfold OpRun; go_simp; exact hR _ _ (Below.refl _ _) rfl)
      case o21 => (intro ρ w1 R hρ hb hp hR; have eg : ρ (.tmp 140) = .bool true := hp 17 140 rfl rfl; refine ⟨fun _ => ?_, fun hg => absurd hg (by simp [guardOf, eg])⟩; clear eg; have e20 : ρ (.tmp 20) = .pointer (some ⟨gb, 0, none⟩) := hρ.tmp 20 rfl; obtain ⟨⟨j0, j1, -, -, -⟩, j2, -⟩ := zQb.below hb; have hcon := hρ.con; have hfn := hρ.fn; clear hρ hp; unfold OpRun; go_simp; exact hR _ _ (Below.refl _ _) rfl)
      case o22 => (intro ρ w1 R hρ hb hp hR; have eg : ρ (.tmp 140) = .bool true := hp 17 140 rfl rfl; refine ⟨fun _ => ?_, fun hg => absurd hg (by simp [guardOf, eg])⟩; clear eg; have e144 : ρ (.tmp 144) = _ := hp 21 144 rfl rfl; have hcon := hρ.con; have hfn := hρ.fn; clear hρ hp; unfold OpRun; go_simp; (refine (QNG.out _ _ (VQb.out _ hb)).mono ?_; rintro e wn ⟨v9, rfl, hv9, hbn⟩; exact ⟨_, rfl, hR _ _ hbn hv9⟩))
      case o23 => (intro ρ w1 R hρ hb hp hR; have eg : ρ (.tmp 140) = .bool true := hp 17 140 rfl rfl; refine ⟨fun _ => ?_, fun hg => absurd hg (by simp [guardOf, eg])⟩; clear eg; have e143 : ρ (.tmp 143) = _ := hp 20 143 rfl rfl; have f145 := hp 22 145 rfl rfl; have hcon := hρ.con; have hfn := hρ.fn; clear hρ hp; unfold OpRun; go_simp; (refine (QAS.out _ _ _ (VQa.out _ hb) f145).mono ?_; rintro e wn ⟨v9, rfl, hv9, hbn⟩; exact ⟨_, rfl, hR _ _ hbn hv9⟩))
      case o24 => (intro ρ w1 R hρ hb hp hR; have eg : ρ (.tmp 140) = .bool true := hp 17 140 rfl rfl; refine ⟨fun _ => ?_, fun hg => absurd hg (by simp [guardOf, eg])⟩; clear eg; have e141 : ρ (.tmp 141) = _ := hp 18 141 rfl rfl; have e142 : ρ (.tmp 142) = _ := hp 19 142 rfl rfl; have f146 := hp 23 146 rfl rfl; have hcon := hρ.con; have hfn := hρ.fn; clear hρ hp; unfold OpRun; go_simp; (refine (TLS.out _ _ _ (HVS.out _ hb) f146).mono ?_; rintro e wn ⟨rfl, hbn⟩; exact ⟨_, rfl, hR _ _ hbn rfl⟩))
      case o25 => (refine StepOK.plain rfl ?_; intro ρ w1 R hρ hb hp hR; have e140 : ρ (.tmp 140) = _ := hp 17 140 rfl rfl; have e147 : ρ (.tmp 147) = _ := hp 24 147 rfl rfl; have hcon := hρ.con; have hfn := hρ.fn; clear hρ hp; unfold OpRun; go_simp; exact hR _ _ (Below.refl _ _) rfl)
      case o26 => (refine StepOK.plain rfl ?_; intro ρ w1 R hρ hb hp hR; have e148 : ρ (.tmp 148) = _ := hp 25 148 rfl rfl; have hcon := hρ.con; have hfn := hρ.fn; clear hρ hp; unfold OpRun; go_simp; exact hR _ _ (Below.refl _ _) rfl)
      case o27 => (intro ρ w1 R hρ hb hp hR; have eg : ρ (.tmp 149) = .bool true := hp 26 149 rfl rfl; refine ⟨fun _ => ?_, fun hg => absurd hg (by simp [guardOf, eg])⟩; clear eg; have e13 : ρ (.tmp 13) = .pointer (some ⟨gM, 0, none⟩) := hρ.tmp 13 rfl; obtain ⟨⟨j0, j1, -, -, -⟩, j2, -⟩ := zDM.below hb; have hcon := hρ.con; have hfn := hρ.fn; clear hρ hp; unfold OpRun; go_simp; exact hR _ _ (Below.refl _ _) rfl)
      case o28 => (intro ρ w1 R hρ hb hp hR; have eg : ρ (.tmp 149) = .bool true := hp 26 149 rfl rfl; refine ⟨fun _ => ?_, fun hg => absurd hg (by simp [guardOf, eg])⟩; clear eg; have e14 : ρ (.tmp 14) = .int .i64 PEM := hρ.tmp 14 rfl; have hcon := hρ.con; have hfn := hρ.fn; clear hρ hp; unfold OpRun; go_simp; exact hR _ _ (Below.refl _ _) rfl)
      case o29 => (intro ρ w1 R hρ hb hp hR; have eg : ρ (.tmp 149) = .bool true := hp 26 149 rfl rfl; refine ⟨fun _ => ?_, fun hg => absurd hg (by simp [guardOf, eg])⟩; clear eg; have e19 : ρ (.tmp 19) = .pointer (some ⟨ga, 0, none⟩) := hρ.tmp 19 rfl; obtain ⟨⟨j0, j1, -, -, -⟩, j2, -⟩ := zQa.below hb; have hcon := hρ.con; have hfn := hρ.fn; clear hρ hp; unfold OpRun; go_simp; exact hR _ _ (Below.refl _ _) rfl)
      case o30 => (intro ρ w1 R hρ hb hp hR; have eg : ρ (.tmp 149) = .bool true := hp 26 149 rfl rfl; refine ⟨fun _ => ?_, fun hg => absurd hg (by simp [guardOf, eg])⟩; clear eg; have e20 : ρ (.tmp 20) = .pointer (some ⟨gb, 0, none⟩) := hρ.tmp 20 rfl; obtain ⟨⟨j0, j1, -, -, -⟩, j2, -⟩ := zQb.below hb; have hcon := hρ.con; have hfn := hρ.fn; clear hρ hp; unfold OpRun; go_simp; exact hR _ _ (Below.refl _ _) rfl)
      case o31 => (intro ρ w1 R hρ hb hp hR; have eg : ρ (.tmp 149) = .bool true := hp 26 149 rfl rfl; refine ⟨fun _ => ?_, fun hg => absurd hg (by simp [guardOf, eg])⟩; clear eg; have e152 : ρ (.tmp 152) = _ := hp 29 152 rfl rfl; have e153 : ρ (.tmp 153) = _ := hp 30 153 rfl rfl; have hcon := hρ.con; have hfn := hρ.fn; clear hρ hp; unfold OpRun; go_simp; (refine (QMU.out _ _ _ (VQa.out _ hb) (VQb.out _ hb)).mono ?_; rintro e wn ⟨v9, rfl, hv9, hbn⟩; exact ⟨_, rfl, hR _ _ hbn hv9⟩))
      case o32 => (intro ρ w1 R hρ hb hp hR; have eg : ρ (.tmp 149) = .bool true := hp 26 149 rfl rfl; refine ⟨fun _ => ?_, fun hg => absurd hg (by simp [guardOf, eg])⟩; clear eg; have e150 : ρ (.tmp 150) = _ := hp 27 150 rfl rfl; have e151 : ρ (.tmp 151) = _ := hp 28 151 rfl rfl; have f154 := hp 31 154 rfl rfl; have hcon := hρ.con; have hfn := hρ.fn; clear hρ hp; unfold OpRun; go_simp; (refine (TLM.out _ _ _ (HVM.out _ hb) f154).mono ?_; rintro e wn ⟨rfl, hbn⟩; exact ⟨_, rfl, hR _ _ hbn rfl⟩))
      case o33 => (refine StepOK.plain rfl ?_; intro ρ w1 R hρ hb hp hR; have e149 : ρ (.tmp 149) = _ := hp 26 149 rfl rfl; have e155 : ρ (.tmp 155) = _ := hp 32 155 rfl rfl; have hcon := hρ.con; have hfn := hρ.fn; clear hρ hp; unfold OpRun; go_simp; exact hR _ _ (Below.refl _ _) rfl)
      case o34 => (refine StepOK.plain rfl ?_; intro ρ w1 R hρ hb hp hR; have e156 : ρ (.tmp 156) = _ := hp 33 156 rfl rfl; have hcon := hρ.con; have hfn := hρ.fn; clear hρ hp; unfold OpRun; go_simp; exact hR _ _ (Below.refl _ _) rfl)
      case after =>
        intro u wn hb hf
        have e6 : u 6 = _ := hf 34 6 (by omega) rfl
        clear hf
        simp only [putAll, Act.put, List.setIfInBounds_toArray, List.set_cons_zero, List.set_cons_succ, List.drop_succ_cons, List.drop_zero, List.drop_nil]
        rw [e6]
        go_wp2_with fail
        refine bodyPost_ret (by simp [results, Tryd.results6, go_sem]; try rfl) rfl ?_
        exact ⟨rfl, below_trans yb10 hb⟩
  · have eA := FA.out.2 hz
    have eS := FS.out.2 hz
    have eM := FM.out.2 hz
    have eC := FC.out.2 hz
    rw [eA.1] at dvA
    rw [eS.1] at dvS
    rw [eM.1] at dvM
    have hz2 : (E2 != 0) = true := by simp [bne, hz]
    have hz3 : (E2 == E2) = true := beq_self_eq_true E2
    obtain ⟨-, eA2⟩ := eA
    obtain ⟨-, eS2⟩ := eS
    obtain ⟨-, eM2⟩ := eM
    subst eA2
    subst eS2
    subst eM2
    subst eC
    rw [hz2]
    obtain ⟨aA, cA, zDA⟩ := dvA.none_form
    obtain ⟨aS, cS, zDS⟩ := dvS.none_form
    obtain ⟨aM, cM, zDM⟩ := dvM.none_form
    obtain ⟨⟨i0, i1, -, -, -⟩, i2, -⟩ := id zDA
    clear hz hz2 dvA dvS dvM FA FS FM FC QA QB HE2
    go_wp2_with (go_at_call 23; (refine (noDyad0_any _ _ _).mono ?_); rintro e w4 ⟨rfl, hb4⟩; have yy : Below W9.heap.size W9 w4 := (by (repeat' (first | (with_reducible assumption) | (with_reducible exact Below.refl _ _) | (with_reducible refine below_al ?_ _) | (with_reducible refine below_drewN ?_ _) | (with_reducible refine Below.drew ?_) | (with_reducible refine Below.alloc ?_ ?_ _) | (with_reducible refine Below.setCell ?_ ?_ _) | (refine below_trans ?_ (by assumption)) | go_size))); have q1 := zDS.below yy; have q2 := zDM.below yy; obtain ⟨⟨s0, s1, -, -, -⟩, s2, -⟩ := id q1; obtain ⟨⟨t0, t1, -, -, -⟩, t2, -⟩ := id q2)
    refine bodyPost_ret (by simp [results, Tryd.results6, go_sem]; try rfl) rfl ?_
    exact ⟨rfl, by (repeat' (first | (with_reducible assumption) | (with_reducible exact Below.refl _ _) | (with_reducible refine below_al ?_ _) | (with_reducible refine below_drewN ?_ _) | (with_reducible refine Below.drew ?_) | (with_reducible refine Below.alloc ?_ ?_ _) | (with_reducible refine Below.setCell ?_ ?_ _) | (refine below_trans ?_ (by assumption)) | go_size))⟩
end Go.Proofs.YteaakbeemhmciaaDoor
