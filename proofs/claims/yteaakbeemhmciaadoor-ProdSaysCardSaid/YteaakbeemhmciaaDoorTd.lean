/- The reference: what is told of a number (ToldDyad), and nothing (NoDyad). -/
import Derived.Test.YteaakbeemhmciaaDoorDn5
import Derived.Test.YteaakbeemhmciaaDoorRegL
import Derived.Test.YteaakbeemhmciaaDoorZt
import Derived.Test.YteaakbeemhmciaaDoorQ5
import Derived.Test.YteaakbeemhmciaaDoorQm
namespace Go.Ulp
open Go.RowKit
/-- what a right Dyad is worth -/
def rightD (n : Bool) (L : List Nat) (x : Int) : Dy := (sg n (lval L : Int), x)
theorem sg_lt (n : Bool) (m : Nat) (h : m = 0 → n = false) : decide (sg n (m : Int) < 0) = n := by
  cases n
  · exact decide_eq_false (by show ¬ (m : Int) < 0; omega)
  · have : m ≠ 0 := fun e => by have := h e; cases this
    exact decide_eq_true (by show -(m : Int) < 0; omega)
theorem right_abs (n : Bool) (L : List Nat) (x : Int) : (rightD n L x).1.natAbs = lval L := by unfold rightD; rw [sg_abs, Int.natAbs_natCast]
theorem vd_right {n : Bool} {L : List Nat} {x : Int} {ao : Option Addr} {cap : Nat} {w : World} (hl : Lim L) (hE : dyadE n L x = 0) (hN : Ns .u32 w ao cap L) :
    VD w (rightD n L x) (.agg #[.bool n, .slice ao L.length cap, .int .i64 x]) := by
  obtain ⟨b1, b2, b3, hL, hz, hod⟩ := dyadE_zero hl hE
  refine ⟨ao, cap, ?_, ?_⟩
  · rw [right_abs, ← hL]
    unfold rightD
    rw [sg_lt n _ (fun h => (hz h).1)]
  · rw [right_abs, ← hL]; exact hN
theorem right_bd {n : Bool} {L : List Nat} {x : Int} (hl : Lim L) (hE : dyadE n L x = 0) : (limbs (rightD n L x).1.natAbs).length ≤ 400 ∧ -10000 ≤ (rightD n L x).2 ∧ (rightD n L x).2 ≤ 10000 := by
  obtain ⟨b1, b2, b3, hL, hz, hod⟩ := dyadE_zero hl hE
  rw [right_abs, ← hL]; exact ⟨b1, b2, b3⟩
theorem right_nrm {n : Bool} {L : List Nat} {x : Int} (hl : Lim L) (hE : dyadE n L x = 0) : nrm (sg n (lval L : Int)) x = rightD n L x := by
  obtain ⟨b1, b2, b3, hL, hz, hod⟩ := dyadE_zero hl hE
  refine nrm_of_isN (rightD n L x) ?_
  unfold IsN
  rw [right_abs]
  by_cases h0 : lval L = 0
  · left
    refine ⟨?_, (hz h0).2⟩
    unfold rightD; rw [h0]; unfold sg; split <;> rfl
  · exact .inr (hod h0)
theorem dyadE2_zero {x y : Int} (h : dyadE2 x y = 0) : x = 0 ∧ y = 0 := by unfold dyadE2 at h; split at h <;> exact ⟨by omega, by omega⟩
/-- what is told of a number: itself, or none with the error of the bounds -/
def bdE (D : Dy) : Int := if bndB D = true then 0 else 2
def bdD (D : Dy) : Dy := if bndB D = true then D else (0, 0)
def pubE (E : Int) (D : Dy) : Int := if E = 0 then bdE D else E
def pubD (E : Int) (D : Dy) : Dy := if E = 0 then bdD D else (0, 0)
/-- a Dyad and an error -/
def RetVE (w : World) (D : Dy) (er : Int) (e : Ending) (w' : World) : Prop := ∃ v, e = .returned (.tuple #[v, .int .i64 er]) ∧ VD w' D v ∧ Below w.heap.size w w'
theorem RetBd.ve {w : World} {D : Dy} {e : Ending} {w' : World} (h : RetBd w D e w') : RetVE w (bdD D) (bdE D) e w' := h
def cmpE (E : Int) (D F : Dy) : Int := if E = 0 then cmpD D F else 0
def shE (n : Bool) (L : List Nat) (x k : Int) : Int := if dyadE n L x = 0 then (if -20000 ≤ k ∧ k ≤ 20000 then 0 else 1) else dyadE n L x
/-- a Dyad and an error among the values of a region -/
def Fact.ve (D : Dy) (er : Int) : Fact := ⟨fun v w => ∃ u, v = .tuple #[u, .int .i64 er] ∧ VD w D u, fun _ _ _ h hb => by
  obtain ⟨u, h1, h2⟩ := h
  exact ⟨u, h1, h2.below hb⟩⟩
def makeE (L : List Nat) (x : Int) : Int := if limbE L = 0 then (if -10000 ≤ x ∧ x ≤ 10000 then 0 else 1) else limbE L
theorem VD.none (w : World) : VD w (0, 0) (.agg #[.bool false, .slice none 0 0, .int .i64 0]) := ⟨Option.none, 0, rfl, Ns.nil⟩
end Go.Ulp
namespace Go.Proofs.YteaakbeemhmciaaDoor
open Go.RowKit Go.Ulp
set_option linter.unusedVariables false
set_option linter.unusedSimpArgs false
set_option maxHeartbeats 1000000
set_option maxRecDepth 100000
theorem check2_any (n0 : Bool) (a0 : Option Addr) (c0 : Nat) (L0 : List Nat) (x0 : Int) (n1 : Bool) (a1 : Option Addr) (c1 : Nat) (L1 : List Nat) (x1 : Int) (w : World) (h0 : Ns .u32 w a0 c0 L0) (hl0 : Lim L0) (h1 : Ns .u32 w a1 c1 L1) (hl1 : Lim L1) :
    Calls Tryd.prog 123 #[.agg #[.bool n0, .slice a0 L0.length c0, .int .i64 x0], .agg #[.bool n1, .slice a1 L1.length c1, .int .i64 x1]] w fun e w' => e = .returned (.int .i64 (dyadE2 (dyadE n0 L0 x0) (dyadE n1 L1 x1))) ∧ Below w.heap.size w w' := by
  have CA := hid (fun w h => dyadCheck_any n0 a0 c0 L0 x0 w h hl0)
  have CB := hid (fun w h => dyadCheck_any n1 a1 c1 L1 x1 w h hl1)
  have H0 := hid h0
  have H1 := hid h1
  have zA0 : QL 25 ((w.alloc (.cells #[.bool n0, .slice a0 L0.length c0, .int .i64 x0] 25)).alloc (.cells #[.bool n1, .slice a1 L1.length c1, .int .i64 x1] 25)) w.heap.size n0 (.slice a0 L0.length c0) x0 := (QL.made rfl).alloc _
  have zB0 : QL 25 ((w.alloc (.cells #[.bool n0, .slice a0 L0.length c0, .int .i64 x0] 25)).alloc (.cells #[.bool n1, .slice a1 L1.length c1, .int .i64 x1] 25)) (w.heap.size + 1) n1 (.slice a1 L1.length c1) x1 := QL.made (by first | omega | (simp; done) | (simp; omega))
  have yb0 : Below w.heap.size w ((w.alloc (.cells #[.bool n0, .slice a0 L0.length c0, .int .i64 x0] 25)).alloc (.cells #[.bool n1, .slice a1 L1.length c1, .int .i64 x1] 25)) := by (repeat' (first | (with_reducible assumption) | (with_reducible exact Below.refl _ _) | (with_reducible refine below_al ?_ _) | (with_reducible refine below_drewN ?_ _) | (with_reducible refine Below.drew ?_) | (with_reducible refine Below.alloc ?_ ?_ _) | (with_reducible refine Below.setCell ?_ ?_ _) | (refine below_trans ?_ (by assumption)) | go_size))
  generalize dyadE n0 L0 x0 = E0 at *
  generalize dyadE n1 L1 x1 = E1 at *
  clear h0 h1
  by_cases hz : E0 = 0
  · have H2 := hid (show dyadE2 E0 E1 = E1 by unfold dyadE2; rw [if_pos hz])
    subst hz
    go_enter Tryd.func123, Tryd.ntmps123
    go_upto_region 1 with fail
    obtain ⟨⟨j0, j1, -, -, -⟩, j2, -⟩ := id zA0
    go_upto_region 2 with (go_at_call 18; (with_reducible refine (CA.out _ (H0.out.below yb0)).mono ?_); rintro en w1 ⟨rfl, hb1⟩)
    have zB1 := zB0.below hb1
    have yb1 := below_trans yb0 hb1
    obtain ⟨⟨i0, i1, -, -, -⟩, i2, -⟩ := id zB1
    go_wp2_with (go_at_call 18; (with_reducible refine (CB.out _ (H1.out.below yb1)).mono ?_); rintro en w2 ⟨rfl, hb2⟩)
    refine bodyPost_ret (by simp [results, Tryd.results123, go_sem]; try rfl) rfl ?_
    rw [H2.out]
    exact ⟨rfl, below_trans yb1 hb2⟩
  · have H2 := hid (show dyadE2 E0 E1 = E0 by unfold dyadE2; rw [if_neg hz])
    have hzb : (E0 == 0) = false := beq_eq_false_iff_ne.2 hz
    clear hz
    go_enter Tryd.func123, Tryd.ntmps123
    go_upto_region 1 with fail
    obtain ⟨⟨j0, j1, -, -, -⟩, j2, -⟩ := id zA0
    go_upto_region 2 with (go_at_call 18; (with_reducible refine (CA.out _ (H0.out.below yb0)).mono ?_); rintro en w1 ⟨rfl, hb1⟩)
    go_wp2_with fail
    refine bodyPost_ret (by simp [results, Tryd.results123, go_sem]; try rfl) rfl ?_
    rw [H2.out]
    exact ⟨rfl, below_trans yb0 hb1⟩
theorem pubCmp_any (n0 : Bool) (a0 : Option Addr) (c0 : Nat) (L0 : List Nat) (x0 : Int) (n1 : Bool) (a1 : Option Addr) (c1 : Nat) (L1 : List Nat) (x1 : Int) (w : World) (h0 : Ns .u32 w a0 c0 L0) (hl0 : Lim L0) (h1 : Ns .u32 w a1 c1 L1) (hl1 : Lim L1) (hT : Tab 0 w) :
    Calls Tryd.prog 42 #[.agg #[.bool n0, .slice a0 L0.length c0, .int .i64 x0], .agg #[.bool n1, .slice a1 L1.length c1, .int .i64 x1]] w fun e w' => e = .returned (.tuple #[.int .i64 (cmpE (dyadE2 (dyadE n0 L0 x0) (dyadE n1 L1 x1)) (rightD n0 L0 x0) (rightD n1 L1 x1)), .int .i64 (dyadE2 (dyadE n0 L0 x0) (dyadE n1 L1 x1))]) ∧ Below w.heap.size w w' := by
  have CK := hid (fun w h0 h1 => check2_any n0 a0 c0 L0 x0 n1 a1 c1 L1 x1 w h0 hl0 h1 hl1)
  have H0 := hid h0
  have H1 := hid h1
  have HT := hid hT
  have zA0 : QL 25 ((w.alloc (.cells #[.bool n0, .slice a0 L0.length c0, .int .i64 x0] 25)).alloc (.cells #[.bool n1, .slice a1 L1.length c1, .int .i64 x1] 25)) w.heap.size n0 (.slice a0 L0.length c0) x0 := (QL.made rfl).alloc _
  have zB0 : QL 25 ((w.alloc (.cells #[.bool n0, .slice a0 L0.length c0, .int .i64 x0] 25)).alloc (.cells #[.bool n1, .slice a1 L1.length c1, .int .i64 x1] 25)) (w.heap.size + 1) n1 (.slice a1 L1.length c1) x1 := QL.made (by first | omega | (simp; done) | (simp; omega))
  have yb0 : Below w.heap.size w ((w.alloc (.cells #[.bool n0, .slice a0 L0.length c0, .int .i64 x0] 25)).alloc (.cells #[.bool n1, .slice a1 L1.length c1, .int .i64 x1] 25)) := by (repeat' (first | (with_reducible assumption) | (with_reducible exact Below.refl _ _) | (with_reducible refine below_al ?_ _) | (with_reducible refine below_drewN ?_ _) | (with_reducible refine Below.drew ?_) | (with_reducible refine Below.alloc ?_ ?_ _) | (with_reducible refine Below.setCell ?_ ?_ _) | (refine below_trans ?_ (by assumption)) | go_size))
  have CO := hid (show (dyadE2 (dyadE n0 L0 x0) (dyadE n1 L1 x1)) = 0 → ∀ w, Ns .u32 w a0 c0 L0 → Ns .u32 w a1 c1 L1 → Tab 0 w → Calls Tryd.prog 120 #[.agg #[.bool n0, .slice a0 L0.length c0, .int .i64 x0], .agg #[.bool n1, .slice a1 L1.length c1, .int .i64 x1]] w fun e w' => e = .returned (.int .i64 (cmpD (rightD n0 L0 x0) (rightD n1 L1 x1))) ∧ Below w.heap.size w w' from fun h w k0 k1 t => by
    obtain ⟨e0, e1⟩ := dyadE2_zero h
    have b0 := right_bd hl0 e0
    have b1 := right_bd hl1 e1
    exact compareD_any _ _ _ _ w (vd_right hl0 e0 k0) (vd_right hl1 e1 k1) (by omega) (by omega) ⟨by omega, by omega⟩ ⟨by omega, by omega⟩ t)
  obtain ⟨CE, hCE⟩ : ∃ z, z = cmpE (dyadE2 (dyadE n0 L0 x0) (dyadE n1 L1 x1)) (rightD n0 L0 x0) (rightD n1 L1 x1) := ⟨_, rfl⟩
  rw [← hCE]
  unfold cmpE at hCE
  generalize cmpD (rightD n0 L0 x0) (rightD n1 L1 x1) = cv at *
  generalize (dyadE2 (dyadE n0 L0 x0) (dyadE n1 L1 x1)) = E at *
  clear h0 h1 hT
  by_cases hz : E = 0
  · rw [if_pos hz] at hCE
    have CO2 := hid (CO.out hz)
    subst hz hCE
    go_enter Tryd.func42, Tryd.ntmps42
    go_upto_region 1 with fail
    obtain ⟨⟨j0, j1, -, -, -⟩, j2, -⟩ := id zA0
    obtain ⟨⟨i0, i1, -, -, -⟩, i2, -⟩ := id zB0
    go_upto_region 2 with (go_at_call 123; (with_reducible refine (CK.out _ (H0.out.below yb0) (H1.out.below yb0)).mono ?_); rintro en w1 ⟨rfl, hb1⟩)
    clear j0 j1 j2 i0 i1 i2
    have zA1 := zA0.below hb1
    have zB1 := zB0.below hb1
    have yb1 := below_trans yb0 hb1
    obtain ⟨⟨j0, j1, -, -, -⟩, j2, -⟩ := id zA1
    obtain ⟨⟨i0, i1, -, -, -⟩, i2, -⟩ := id zB1
    go_wp2_with (go_at_call 120; (with_reducible refine (CO2.out _ (H0.out.below yb1) (H1.out.below yb1) (HT.out.below yb1)).mono ?_); rintro en w2 ⟨rfl, hb2⟩)
    refine bodyPost_ret (by simp [results, Tryd.results42, go_sem]; try rfl) rfl ?_
    exact ⟨rfl, below_trans yb1 hb2⟩
  · rw [if_neg hz] at hCE
    have hzb : (E == 0) = false := beq_eq_false_iff_ne.2 hz
    subst hCE
    clear hz CO
    go_enter Tryd.func42, Tryd.ntmps42
    go_upto_region 1 with fail
    obtain ⟨⟨j0, j1, -, -, -⟩, j2, -⟩ := id zA0
    obtain ⟨⟨i0, i1, -, -, -⟩, i2, -⟩ := id zB0
    go_upto_region 2 with (go_at_call 123; (with_reducible refine (CK.out _ (H0.out.below yb0) (H1.out.below yb0)).mono ?_); rintro en w1 ⟨rfl, hb1⟩)
    go_wp2_with fail
    refine bodyPost_ret (by simp [results, Tryd.results42, go_sem]; try rfl) rfl ?_
    exact ⟨rfl, below_trans yb0 hb1⟩
theorem pubAdd_any (n0 : Bool) (a0 : Option Addr) (c0 : Nat) (L0 : List Nat) (x0 : Int) (n1 : Bool) (a1 : Option Addr) (c1 : Nat) (L1 : List Nat) (x1 : Int) (w : World) (h0 : Ns .u32 w a0 c0 L0) (hl0 : Lim L0) (h1 : Ns .u32 w a1 c1 L1) (hl1 : Lim L1) (hT : Tab 0 w) :
    Calls Tryd.prog 43 #[.agg #[.bool n0, .slice a0 L0.length c0, .int .i64 x0], .agg #[.bool n1, .slice a1 L1.length c1, .int .i64 x1]] w (RetVE w (pubD (dyadE2 (dyadE n0 L0 x0) (dyadE n1 L1 x1)) (addD (rightD n0 L0 x0) (rightD n1 L1 x1))) (pubE (dyadE2 (dyadE n0 L0 x0) (dyadE n1 L1 x1)) (addD (rightD n0 L0 x0) (rightD n1 L1 x1)))) := by
  have CK := hid (fun w h0 h1 => check2_any n0 a0 c0 L0 x0 n1 a1 c1 L1 x1 w h0 hl0 h1 hl1)
  have H0 := hid h0
  have H1 := hid h1
  have HT := hid hT
  have zA0 : QL 25 (((w.alloc (.cells #[.bool n0, .slice a0 L0.length c0, .int .i64 x0] 25)).alloc (.cells #[.bool n1, .slice a1 L1.length c1, .int .i64 x1] 25)).alloc (.cells #[.bool false, .slice none 0 0, .int .i64 0] 25)) w.heap.size n0 (.slice a0 L0.length c0) x0 := ((QL.made rfl).alloc _).alloc _
  have zB0 : QL 25 (((w.alloc (.cells #[.bool n0, .slice a0 L0.length c0, .int .i64 x0] 25)).alloc (.cells #[.bool n1, .slice a1 L1.length c1, .int .i64 x1] 25)).alloc (.cells #[.bool false, .slice none 0 0, .int .i64 0] 25)) (w.heap.size + 1) n1 (.slice a1 L1.length c1) x1 := (QL.made (by first | omega | (simp; done) | (simp; omega))).alloc _
  have zR0 : QL 25 (((w.alloc (.cells #[.bool n0, .slice a0 L0.length c0, .int .i64 x0] 25)).alloc (.cells #[.bool n1, .slice a1 L1.length c1, .int .i64 x1] 25)).alloc (.cells #[.bool false, .slice none 0 0, .int .i64 0] 25)) (w.heap.size + 1 + 1) false (.slice none 0 0) 0 := QL.made (by first | omega | (simp; done) | (simp; omega))
  have yb0 : Below w.heap.size w (((w.alloc (.cells #[.bool n0, .slice a0 L0.length c0, .int .i64 x0] 25)).alloc (.cells #[.bool n1, .slice a1 L1.length c1, .int .i64 x1] 25)).alloc (.cells #[.bool false, .slice none 0 0, .int .i64 0] 25)) := by (repeat' (first | (with_reducible assumption) | (with_reducible exact Below.refl _ _) | (with_reducible refine below_al ?_ _) | (with_reducible refine below_drewN ?_ _) | (with_reducible refine Below.drew ?_) | (with_reducible refine Below.alloc ?_ ?_ _) | (with_reducible refine Below.setCell ?_ ?_ _) | (refine below_trans ?_ (by assumption)) | go_size))
  have PL := hid (show (dyadE2 (dyadE n0 L0 x0) (dyadE n1 L1 x1)) = 0 → ∀ w, Ns .u32 w a0 c0 L0 → Ns .u32 w a1 c1 L1 → Tab 0 w → Calls Tryd.prog 117 #[.agg #[.bool n0, .slice a0 L0.length c0, .int .i64 x0], .agg #[.bool n1, .slice a1 L1.length c1, .int .i64 x1]] w (RetVD w (addD (rightD n0 L0 x0) (rightD n1 L1 x1))) from fun h w k0 k1 t => by
    obtain ⟨e0, e1⟩ := dyadE2_zero h
    have b0 := right_bd hl0 e0
    have b1 := right_bd hl1 e1
    exact plusD_any _ _ _ _ w (vd_right hl0 e0 k0) (vd_right hl1 e1 k1) (by omega) (by omega) ⟨by omega, by omega⟩ ⟨by omega, by omega⟩ t)
  have BO := hid (show ∀ v w, VD w (addD (rightD n0 L0 x0) (rightD n1 L1 x1)) v → Calls Tryd.prog 98 #[v] w (RetVE w (bdD (addD (rightD n0 L0 x0) (rightD n1 L1 x1))) (bdE (addD (rightD n0 L0 x0) (rightD n1 L1 x1)))) from fun v w h => bounded_any v _ w h)
  obtain ⟨PD, hPD⟩ : ∃ z, z = pubD (dyadE2 (dyadE n0 L0 x0) (dyadE n1 L1 x1)) (addD (rightD n0 L0 x0) (rightD n1 L1 x1)) := ⟨_, rfl⟩
  obtain ⟨PE, hPE⟩ : ∃ z, z = pubE (dyadE2 (dyadE n0 L0 x0) (dyadE n1 L1 x1)) (addD (rightD n0 L0 x0) (rightD n1 L1 x1)) := ⟨_, rfl⟩
  rw [← hPD, ← hPE]
  unfold pubD at hPD
  unfold pubE at hPE
  generalize bdD (addD (rightD n0 L0 x0) (rightD n1 L1 x1)) = RD at *
  generalize bdE (addD (rightD n0 L0 x0) (rightD n1 L1 x1)) = RE at *
  generalize (addD (rightD n0 L0 x0) (rightD n1 L1 x1)) = R at *
  generalize (dyadE2 (dyadE n0 L0 x0) (dyadE n1 L1 x1)) = E at *
  clear h0 h1 hT
  by_cases hz : E = 0
  · rw [if_pos hz] at hPD hPE
    have PL2 := hid (PL.out hz)
    clear PL
    subst hz hPD hPE
    go_enter Tryd.func43, Tryd.ntmps43
    go_upto_region 1 with fail
    obtain ⟨⟨j0, j1, -, -, -⟩, j2, -⟩ := id zA0
    obtain ⟨⟨i0, i1, -, -, -⟩, i2, -⟩ := id zB0
    go_upto_region 2 with (go_at_call 123; (with_reducible refine (CK.out _ (H0.out.below yb0) (H1.out.below yb0)).mono ?_); rintro en w1 ⟨rfl, hb1⟩)
    clear j0 j1 j2 i0 i1 i2
    have zA1 := zA0.below hb1
    have zB1 := zB0.below hb1
    have zR1 := zR0.below hb1
    have yb1 := below_trans yb0 hb1
    obtain ⟨⟨j0, j1, -, -, -⟩, j2, -⟩ := id zA1
    obtain ⟨⟨i0, i1, -, -, -⟩, i2, -⟩ := id zB1
    go_wp2_with (first
      | (go_at_call 117; (with_reducible refine (PL2.out _ (H0.out.below yb1) (H1.out.below yb1) (HT.out.below yb1)).mono ?_); rintro en w2 ⟨v2, rfl, hv2, hb2⟩)
      | (go_at_call 98; (with_reducible refine (BO.out _ _ hv2).mono ?_); rintro en w3 ⟨v3, rfl, ⟨a3, c3, rfl, hN3⟩, hb3⟩; have zR3 := (zR1.below hb2).below hb3; have yb3 := below_trans (below_trans yb1 hb2) hb3; obtain ⟨⟨k0, k1, f0, f1, hs2⟩, k2, f2⟩ := id zR3))
    refine bodyPost_ret (by simp [results, Tryd.results43, go_sem, k0, k1, k2]; try rfl) rfl ?_
    exact ⟨_, rfl, ⟨a3, c3, rfl, hN3.set3 zR3 (by intro x h; cases h) _ _ _⟩, ((yb3.setCell (by first | omega | (simp; done) | (simp; omega)) _).setCell (by first | omega | (simp; done) | (simp; omega)) _).setCell (by first | omega | (simp; done) | (simp; omega)) _⟩
  · rw [if_neg hz] at hPD hPE
    have hzb : (E == 0) = false := beq_eq_false_iff_ne.2 hz
    subst hPD hPE
    clear hz PL
    go_enter Tryd.func43, Tryd.ntmps43
    go_upto_region 1 with fail
    obtain ⟨⟨j0, j1, -, -, -⟩, j2, -⟩ := id zA0
    obtain ⟨⟨i0, i1, -, -, -⟩, i2, -⟩ := id zB0
    go_upto_region 2 with (go_at_call 123; (with_reducible refine (CK.out _ (H0.out.below yb0) (H1.out.below yb0)).mono ?_); rintro en w1 ⟨rfl, hb1⟩)
    have zR3 := zR0.below hb1
    have yb3 := below_trans yb0 hb1
    obtain ⟨⟨k0, k1, f0, f1, hs2⟩, k2, f2⟩ := id zR3
    go_wp2_with fail
    refine bodyPost_ret (by simp [results, Tryd.results43, go_sem, k0, k1, k2]; try rfl) rfl ?_
    exact ⟨_, rfl, ⟨none, 0, rfl, Ns.nil⟩, ((yb3.setCell (by first | omega | (simp; done) | (simp; omega)) _).setCell (by first | omega | (simp; done) | (simp; omega)) _).setCell (by first | omega | (simp; done) | (simp; omega)) _⟩
theorem pubMul_any (n0 : Bool) (a0 : Option Addr) (c0 : Nat) (L0 : List Nat) (x0 : Int) (n1 : Bool) (a1 : Option Addr) (c1 : Nat) (L1 : List Nat) (x1 : Int) (w : World) (h0 : Ns .u32 w a0 c0 L0) (hl0 : Lim L0) (h1 : Ns .u32 w a1 c1 L1) (hl1 : Lim L1) (hT : Tab 0 w) :
    Calls Tryd.prog 45 #[.agg #[.bool n0, .slice a0 L0.length c0, .int .i64 x0], .agg #[.bool n1, .slice a1 L1.length c1, .int .i64 x1]] w (RetVE w (pubD (dyadE2 (dyadE n0 L0 x0) (dyadE n1 L1 x1)) (mulD (rightD n0 L0 x0) (rightD n1 L1 x1))) (pubE (dyadE2 (dyadE n0 L0 x0) (dyadE n1 L1 x1)) (mulD (rightD n0 L0 x0) (rightD n1 L1 x1)))) := by
  have CK := hid (fun w h0 h1 => check2_any n0 a0 c0 L0 x0 n1 a1 c1 L1 x1 w h0 hl0 h1 hl1)
  have H0 := hid h0
  have H1 := hid h1
  have HT := hid hT
  have zA0 : QL 25 (((w.alloc (.cells #[.bool n0, .slice a0 L0.length c0, .int .i64 x0] 25)).alloc (.cells #[.bool n1, .slice a1 L1.length c1, .int .i64 x1] 25)).alloc (.cells #[.bool false, .slice none 0 0, .int .i64 0] 25)) w.heap.size n0 (.slice a0 L0.length c0) x0 := ((QL.made rfl).alloc _).alloc _
  have zB0 : QL 25 (((w.alloc (.cells #[.bool n0, .slice a0 L0.length c0, .int .i64 x0] 25)).alloc (.cells #[.bool n1, .slice a1 L1.length c1, .int .i64 x1] 25)).alloc (.cells #[.bool false, .slice none 0 0, .int .i64 0] 25)) (w.heap.size + 1) n1 (.slice a1 L1.length c1) x1 := (QL.made (by first | omega | (simp; done) | (simp; omega))).alloc _
  have zR0 : QL 25 (((w.alloc (.cells #[.bool n0, .slice a0 L0.length c0, .int .i64 x0] 25)).alloc (.cells #[.bool n1, .slice a1 L1.length c1, .int .i64 x1] 25)).alloc (.cells #[.bool false, .slice none 0 0, .int .i64 0] 25)) (w.heap.size + 1 + 1) false (.slice none 0 0) 0 := QL.made (by first | omega | (simp; done) | (simp; omega))
  have yb0 : Below w.heap.size w (((w.alloc (.cells #[.bool n0, .slice a0 L0.length c0, .int .i64 x0] 25)).alloc (.cells #[.bool n1, .slice a1 L1.length c1, .int .i64 x1] 25)).alloc (.cells #[.bool false, .slice none 0 0, .int .i64 0] 25)) := by (repeat' (first | (with_reducible assumption) | (with_reducible exact Below.refl _ _) | (with_reducible refine below_al ?_ _) | (with_reducible refine below_drewN ?_ _) | (with_reducible refine Below.drew ?_) | (with_reducible refine Below.alloc ?_ ?_ _) | (with_reducible refine Below.setCell ?_ ?_ _) | (refine below_trans ?_ (by assumption)) | go_size))
  have PL := hid (show (dyadE2 (dyadE n0 L0 x0) (dyadE n1 L1 x1)) = 0 → ∀ w, Ns .u32 w a0 c0 L0 → Ns .u32 w a1 c1 L1 → Tab 0 w → Calls Tryd.prog 119 #[.agg #[.bool n0, .slice a0 L0.length c0, .int .i64 x0], .agg #[.bool n1, .slice a1 L1.length c1, .int .i64 x1]] w (RetVD w (mulD (rightD n0 L0 x0) (rightD n1 L1 x1))) from fun h w k0 k1 t => by
    obtain ⟨e0, e1⟩ := dyadE2_zero h
    have b0 := right_bd hl0 e0
    have b1 := right_bd hl1 e1
    exact timesD_any _ _ _ _ w (vd_right hl0 e0 k0) (vd_right hl1 e1 k1) (by omega) (by omega) ⟨by omega, by omega⟩ ⟨by omega, by omega⟩ t)
  have BO := hid (show ∀ v w, VD w (mulD (rightD n0 L0 x0) (rightD n1 L1 x1)) v → Calls Tryd.prog 98 #[v] w (RetVE w (bdD (mulD (rightD n0 L0 x0) (rightD n1 L1 x1))) (bdE (mulD (rightD n0 L0 x0) (rightD n1 L1 x1)))) from fun v w h => bounded_any v _ w h)
  obtain ⟨PD, hPD⟩ : ∃ z, z = pubD (dyadE2 (dyadE n0 L0 x0) (dyadE n1 L1 x1)) (mulD (rightD n0 L0 x0) (rightD n1 L1 x1)) := ⟨_, rfl⟩
  obtain ⟨PE, hPE⟩ : ∃ z, z = pubE (dyadE2 (dyadE n0 L0 x0) (dyadE n1 L1 x1)) (mulD (rightD n0 L0 x0) (rightD n1 L1 x1)) := ⟨_, rfl⟩
  rw [← hPD, ← hPE]
  unfold pubD at hPD
  unfold pubE at hPE
  generalize bdD (mulD (rightD n0 L0 x0) (rightD n1 L1 x1)) = RD at *
  generalize bdE (mulD (rightD n0 L0 x0) (rightD n1 L1 x1)) = RE at *
  generalize (mulD (rightD n0 L0 x0) (rightD n1 L1 x1)) = R at *
  generalize (dyadE2 (dyadE n0 L0 x0) (dyadE n1 L1 x1)) = E at *
  clear h0 h1 hT
  by_cases hz : E = 0
  · rw [if_pos hz] at hPD hPE
    have PL2 := hid (PL.out hz)
    clear PL
    subst hz hPD hPE
    go_enter Tryd.func45, Tryd.ntmps45
    go_upto_region 1 with fail
    obtain ⟨⟨j0, j1, -, -, -⟩, j2, -⟩ := id zA0
    obtain ⟨⟨i0, i1, -, -, -⟩, i2, -⟩ := id zB0
    go_upto_region 2 with (go_at_call 123; (with_reducible refine (CK.out _ (H0.out.below yb0) (H1.out.below yb0)).mono ?_); rintro en w1 ⟨rfl, hb1⟩)
    clear j0 j1 j2 i0 i1 i2
    have zA1 := zA0.below hb1
    have zB1 := zB0.below hb1
    have zR1 := zR0.below hb1
    have yb1 := below_trans yb0 hb1
    obtain ⟨⟨j0, j1, -, -, -⟩, j2, -⟩ := id zA1
    obtain ⟨⟨i0, i1, -, -, -⟩, i2, -⟩ := id zB1
    go_wp2_with (first
      | (go_at_call 119; (with_reducible refine (PL2.out _ (H0.out.below yb1) (H1.out.below yb1) (HT.out.below yb1)).mono ?_); rintro en w2 ⟨v2, rfl, hv2, hb2⟩)
      | (go_at_call 98; (with_reducible refine (BO.out _ _ hv2).mono ?_); rintro en w3 ⟨v3, rfl, ⟨a3, c3, rfl, hN3⟩, hb3⟩; have zR3 := (zR1.below hb2).below hb3; have yb3 := below_trans (below_trans yb1 hb2) hb3; obtain ⟨⟨k0, k1, f0, f1, hs2⟩, k2, f2⟩ := id zR3))
    refine bodyPost_ret (by simp [results, Tryd.results45, go_sem, k0, k1, k2]; try rfl) rfl ?_
    exact ⟨_, rfl, ⟨a3, c3, rfl, hN3.set3 zR3 (by intro x h; cases h) _ _ _⟩, ((yb3.setCell (by first | omega | (simp; done) | (simp; omega)) _).setCell (by first | omega | (simp; done) | (simp; omega)) _).setCell (by first | omega | (simp; done) | (simp; omega)) _⟩
  · rw [if_neg hz] at hPD hPE
    have hzb : (E == 0) = false := beq_eq_false_iff_ne.2 hz
    subst hPD hPE
    clear hz PL
    go_enter Tryd.func45, Tryd.ntmps45
    go_upto_region 1 with fail
    obtain ⟨⟨j0, j1, -, -, -⟩, j2, -⟩ := id zA0
    obtain ⟨⟨i0, i1, -, -, -⟩, i2, -⟩ := id zB0
    go_upto_region 2 with (go_at_call 123; (with_reducible refine (CK.out _ (H0.out.below yb0) (H1.out.below yb0)).mono ?_); rintro en w1 ⟨rfl, hb1⟩)
    have zR3 := zR0.below hb1
    have yb3 := below_trans yb0 hb1
    obtain ⟨⟨k0, k1, f0, f1, hs2⟩, k2, f2⟩ := id zR3
    go_wp2_with fail
    refine bodyPost_ret (by simp [results, Tryd.results45, go_sem, k0, k1, k2]; try rfl) rfl ?_
    exact ⟨_, rfl, ⟨none, 0, rfl, Ns.nil⟩, ((yb3.setCell (by first | omega | (simp; done) | (simp; omega)) _).setCell (by first | omega | (simp; done) | (simp; omega)) _).setCell (by first | omega | (simp; done) | (simp; omega)) _⟩
theorem pubSub_any (n0 : Bool) (a0 : Option Addr) (c0 : Nat) (L0 : List Nat) (x0 : Int) (n1 : Bool) (a1 : Option Addr) (c1 : Nat) (L1 : List Nat) (x1 : Int) (w : World) (h0 : Ns .u32 w a0 c0 L0) (hl0 : Lim L0) (h1 : Ns .u32 w a1 c1 L1) (hl1 : Lim L1) (hT : Tab 0 w) :
    Calls Tryd.prog 44 #[.agg #[.bool n0, .slice a0 L0.length c0, .int .i64 x0], .agg #[.bool n1, .slice a1 L1.length c1, .int .i64 x1]] w (RetVE w (pubD (dyadE2 (dyadE n0 L0 x0) (dyadE n1 L1 x1)) (addD (rightD n0 L0 x0) (negD (rightD n1 L1 x1)))) (pubE (dyadE2 (dyadE n0 L0 x0) (dyadE n1 L1 x1)) (addD (rightD n0 L0 x0) (negD (rightD n1 L1 x1))))) := by
  have CK := hid (fun w h0 h1 => check2_any n0 a0 c0 L0 x0 n1 a1 c1 L1 x1 w h0 hl0 h1 hl1)
  have H0 := hid h0
  have H1 := hid h1
  have HT := hid hT
  have zA0 : QL 25 (((w.alloc (.cells #[.bool n0, .slice a0 L0.length c0, .int .i64 x0] 25)).alloc (.cells #[.bool n1, .slice a1 L1.length c1, .int .i64 x1] 25)).alloc (.cells #[.bool false, .slice none 0 0, .int .i64 0] 25)) w.heap.size n0 (.slice a0 L0.length c0) x0 := ((QL.made rfl).alloc _).alloc _
  have zB0 : QL 25 (((w.alloc (.cells #[.bool n0, .slice a0 L0.length c0, .int .i64 x0] 25)).alloc (.cells #[.bool n1, .slice a1 L1.length c1, .int .i64 x1] 25)).alloc (.cells #[.bool false, .slice none 0 0, .int .i64 0] 25)) (w.heap.size + 1) n1 (.slice a1 L1.length c1) x1 := (QL.made (by first | omega | (simp; done) | (simp; omega))).alloc _
  have zR0 : QL 25 (((w.alloc (.cells #[.bool n0, .slice a0 L0.length c0, .int .i64 x0] 25)).alloc (.cells #[.bool n1, .slice a1 L1.length c1, .int .i64 x1] 25)).alloc (.cells #[.bool false, .slice none 0 0, .int .i64 0] 25)) (w.heap.size + 1 + 1) false (.slice none 0 0) 0 := QL.made (by first | omega | (simp; done) | (simp; omega))
  have yb0 : Below w.heap.size w (((w.alloc (.cells #[.bool n0, .slice a0 L0.length c0, .int .i64 x0] 25)).alloc (.cells #[.bool n1, .slice a1 L1.length c1, .int .i64 x1] 25)).alloc (.cells #[.bool false, .slice none 0 0, .int .i64 0] 25)) := by (repeat' (first | (with_reducible assumption) | (with_reducible exact Below.refl _ _) | (with_reducible refine below_al ?_ _) | (with_reducible refine below_drewN ?_ _) | (with_reducible refine Below.drew ?_) | (with_reducible refine Below.alloc ?_ ?_ _) | (with_reducible refine Below.setCell ?_ ?_ _) | (refine below_trans ?_ (by assumption)) | go_size))
  have OP := hid (show (dyadE2 (dyadE n0 L0 x0) (dyadE n1 L1 x1)) = 0 → ∀ w, Ns .u32 w a1 c1 L1 → Calls Tryd.prog 118 #[.agg #[.bool n1, .slice a1 L1.length c1, .int .i64 x1]] w (RetVD w (negD (rightD n1 L1 x1))) from fun h w k1 => by
    obtain ⟨e0, e1⟩ := dyadE2_zero h
    have b1 := right_bd hl1 e1
    exact opp_any _ _ w (vd_right hl1 e1 k1) (by omega))
  have PL := hid (show (dyadE2 (dyadE n0 L0 x0) (dyadE n1 L1 x1)) = 0 → ∀ v w, Ns .u32 w a0 c0 L0 → VD w (negD (rightD n1 L1 x1)) v → Tab 0 w → Calls Tryd.prog 117 #[.agg #[.bool n0, .slice a0 L0.length c0, .int .i64 x0], v] w (RetVD w (addD (rightD n0 L0 x0) (negD (rightD n1 L1 x1)))) from fun h v w k0 k1 t => by
    obtain ⟨e0, e1⟩ := dyadE2_zero h
    have b0 := right_bd hl0 e0
    have b1 := right_bd hl1 e1
    exact plusD_any _ _ _ _ w (vd_right hl0 e0 k0) k1 (by omega) (by rw [negD_abs]; omega) ⟨by omega, by omega⟩ ⟨(by show -1000000 ≤ (rightD n1 L1 x1).2; omega), (by show (rightD n1 L1 x1).2 ≤ 1000000; omega)⟩ t)
  have BO := hid (show ∀ v w, VD w (addD (rightD n0 L0 x0) (negD (rightD n1 L1 x1))) v → Calls Tryd.prog 98 #[v] w (RetVE w (bdD (addD (rightD n0 L0 x0) (negD (rightD n1 L1 x1)))) (bdE (addD (rightD n0 L0 x0) (negD (rightD n1 L1 x1))))) from fun v w h => bounded_any v _ w h)
  obtain ⟨PD, hPD⟩ : ∃ z, z = pubD (dyadE2 (dyadE n0 L0 x0) (dyadE n1 L1 x1)) (addD (rightD n0 L0 x0) (negD (rightD n1 L1 x1))) := ⟨_, rfl⟩
  obtain ⟨PE, hPE⟩ : ∃ z, z = pubE (dyadE2 (dyadE n0 L0 x0) (dyadE n1 L1 x1)) (addD (rightD n0 L0 x0) (negD (rightD n1 L1 x1))) := ⟨_, rfl⟩
  rw [← hPD, ← hPE]
  unfold pubD at hPD
  unfold pubE at hPE
  generalize bdD (addD (rightD n0 L0 x0) (negD (rightD n1 L1 x1))) = RD at *
  generalize bdE (addD (rightD n0 L0 x0) (negD (rightD n1 L1 x1))) = RE at *
  generalize addD (rightD n0 L0 x0) (negD (rightD n1 L1 x1)) = R at *
  generalize negD (rightD n1 L1 x1) = NE at *
  generalize (dyadE2 (dyadE n0 L0 x0) (dyadE n1 L1 x1)) = E at *
  clear h0 h1 hT
  by_cases hz : E = 0
  · rw [if_pos hz] at hPD hPE
    have PL2 := hid (PL.out hz)
    have OP2 := hid (OP.out hz)
    clear PL OP
    subst hz hPD hPE
    go_enter Tryd.func44, Tryd.ntmps44
    go_upto_region 1 with fail
    obtain ⟨⟨j0, j1, -, -, -⟩, j2, -⟩ := id zA0
    obtain ⟨⟨i0, i1, -, -, -⟩, i2, -⟩ := id zB0
    go_upto_region 2 with (go_at_call 123; (with_reducible refine (CK.out _ (H0.out.below yb0) (H1.out.below yb0)).mono ?_); rintro en w1 ⟨rfl, hb1⟩)
    clear j0 j1 j2 i0 i1 i2
    have zA1 := zA0.below hb1
    have zB1 := zB0.below hb1
    have zR1 := zR0.below hb1
    have yb1 := below_trans yb0 hb1
    go_upto_region 4 with fail
    refine wp_region_growL 7 6 [14, 15, 16, 17, 18, 19, 20] [Fact.is (.agg #[.bool n0, .slice a0 L0.length c0, .int .i64 x0]), Fact.is (.agg #[.bool n1, .slice a1 L1.length c1, .int .i64 x1]), Fact.vd NE, Fact.vd R, Fact.ve PD PE, Fact.vd PD, Fact.is (.int .i64 PE)] [] (by kernel_rfl) (by kernel_rfl) rfl ⟨?o0, ?o1, ?o2, ?o3, ?o4, ?o5, ?o6, trivial⟩ ?late (fun d _ _ _ _ h => by cases d <;> exact h) ?after
    case o0 => (refine StepOKF.plain rfl ?_; intro ρ w1 R hρ hb hp hR; have e2 : ρ (.tmp 2) = .pointer (some ⟨w.heap.size, 0, none⟩) := hρ.tmp 2 rfl; obtain ⟨⟨j0, j1, -, -, -⟩, j2, -⟩ := zA1.below hb; replace hR := fun v w2 h1 h2 => hR v w2 h1 h2 (fun h => absurd h (by decide)); have hcon := hρ.con; have hfn := hρ.fn; clear hρ hp; unfold OpRun; go_simp; exact hR _ _ (Below.refl _ _) rfl)
    case o1 => (refine StepOKF.plain rfl ?_; intro ρ w1 R hρ hb hp hR; have e3 : ρ (.tmp 3) = .pointer (some ⟨w.heap.size + 1, 0, none⟩) := hρ.tmp 3 rfl; obtain ⟨⟨j0, j1, -, -, -⟩, j2, -⟩ := zB1.below hb; replace hR := fun v w2 h1 h2 => hR v w2 h1 h2 (fun h => absurd h (by decide)); have hcon := hρ.con; have hfn := hρ.fn; clear hρ hp; unfold OpRun; go_simp; exact hR _ _ (Below.refl _ _) rfl)
    case o2 => (refine StepOKF.plain rfl ?_; intro ρ w1 R hρ hb hp hR; have e15 : ρ (.tmp 15) = _ := hp 1 15 rfl rfl; replace hR := fun v w2 h1 h2 => hR v w2 h1 h2 (fun h => absurd h (by decide)); have hcon := hρ.con; have hfn := hρ.fn; clear hρ hp; unfold OpRun; go_simp; (refine (OP2.out _ (H1.out.below (below_trans yb1 hb))).mono ?_; rintro e wn ⟨v9, rfl, hv9, hbn⟩; exact ⟨_, rfl, hR _ _ hbn hv9⟩))
    case o3 => (refine StepOKF.plain rfl ?_; intro ρ w1 R hρ hb hp hR; have e14 : ρ (.tmp 14) = _ := hp 0 14 rfl rfl; have f16 := hp 2 16 rfl rfl; replace hR := fun v w2 h1 h2 => hR v w2 h1 h2 (fun h => absurd h (by decide)); have hcon := hρ.con; have hfn := hρ.fn; clear hρ hp; unfold OpRun; go_simp; (refine (PL2.out _ _ (H0.out.below (below_trans yb1 hb)) f16 (HT.out.below (below_trans yb1 hb))).mono ?_; rintro e wn ⟨v9, rfl, hv9, hbn⟩; exact ⟨_, rfl, hR _ _ hbn hv9⟩))
    case o4 => (refine StepOKF.plain rfl ?_; intro ρ w1 R hρ hb hp hR; have f17 := hp 3 17 rfl rfl; replace hR := fun v w2 h1 h2 => hR v w2 h1 h2 (fun h => absurd h (by decide)); have hcon := hρ.con; have hfn := hρ.fn; clear hρ hp; unfold OpRun; go_simp; (refine (BO.out _ _ f17).mono ?_; rintro e wn ⟨v9, rfl, hv9, hbn⟩; exact ⟨_, rfl, hR _ _ hbn ⟨v9, rfl, hv9⟩⟩))
    case o5 => (refine StepOKF.plain rfl ?_; intro ρ w1 R hρ hb hp hR; have f18 := hp 4 18 rfl rfl; replace hR := fun v w2 h1 h2 => hR v w2 h1 h2 (fun h => absurd h (by decide)); have hcon := hρ.con; have hfn := hρ.fn; clear hρ hp; unfold OpRun; go_simp; (obtain ⟨v9, e18, hv9⟩ := f18; rw [e18]; exact hR _ _ (Below.refl _ _) hv9))
    case o6 => (refine StepOKF.plain rfl ?_; intro ρ w1 R hρ hb hp hR; have f18 := hp 4 18 rfl rfl; obtain ⟨v9, e18, hv9⟩ := f18; replace hR := fun v w2 h1 h2 => hR v w2 h1 h2 (fun h => absurd h (by decide)); have hcon := hρ.con; have hfn := hρ.fn; clear hρ hp; unfold OpRun; go_simp; exact hR _ _ (Below.refl _ _) rfl)
    case late =>
      intro o ho
      simp only [List.getElem?_cons_succ, List.getElem?_cons_zero, Option.some.injEq] at ho
      subst ho
      refine ⟨rfl, ?_⟩
      intro ρ w1 hρ hb hp
      have f18 := hp 4 18 rfl rfl
      obtain ⟨v9, e18, hv9⟩ := f18
      refine ⟨_, ?_, rfl⟩
      intro w2
      have hcon := hρ.con
      go_simp
      try rfl
    case after =>
      intro u wn hb hf hd
      have f19 := hf 5 19 (by omega) rfl
      have e20 : u 20 = _ := hf 6 20 (by omega) rfl
      clear hf hd
      simp only [putAll, Act.put, List.setIfInBounds_toArray, List.set_cons_zero, List.set_cons_succ, List.drop_succ_cons, List.drop_zero, List.drop_nil]
      rw [e20]
      obtain ⟨a3, c3, e19, hN3⟩ := f19
      rw [e19]
      clear e19
      have zR3 := zR1.below hb
      have yb3 := below_trans yb1 hb
      obtain ⟨⟨k0, k1, f0, f1, hs2⟩, k2, f2⟩ := id zR3
      go_wp2_with fail
      refine bodyPost_ret (by simp [results, Tryd.results44, go_sem, k0, k1, k2]; try rfl) rfl ?_
      exact ⟨_, rfl, ⟨a3, c3, rfl, hN3.set3 zR3 (by intro x h; cases h) _ _ _⟩, ((yb3.setCell (by first | omega | (simp; done) | (simp; omega)) _).setCell (by first | omega | (simp; done) | (simp; omega)) _).setCell (by first | omega | (simp; done) | (simp; omega)) _⟩
  · clear OP
    rw [if_neg hz] at hPD hPE
    have hzb : (E == 0) = false := beq_eq_false_iff_ne.2 hz
    subst hPD hPE
    clear hz PL
    go_enter Tryd.func44, Tryd.ntmps44
    go_upto_region 1 with fail
    obtain ⟨⟨j0, j1, -, -, -⟩, j2, -⟩ := id zA0
    obtain ⟨⟨i0, i1, -, -, -⟩, i2, -⟩ := id zB0
    go_upto_region 2 with (go_at_call 123; (with_reducible refine (CK.out _ (H0.out.below yb0) (H1.out.below yb0)).mono ?_); rintro en w1 ⟨rfl, hb1⟩)
    have zR3 := zR0.below hb1
    have yb3 := below_trans yb0 hb1
    obtain ⟨⟨k0, k1, f0, f1, hs2⟩, k2, f2⟩ := id zR3
    go_wp2_with fail
    refine bodyPost_ret (by simp [results, Tryd.results44, go_sem, k0, k1, k2]; try rfl) rfl ?_
    exact ⟨_, rfl, ⟨none, 0, rfl, Ns.nil⟩, ((yb3.setCell (by first | omega | (simp; done) | (simp; omega)) _).setCell (by first | omega | (simp; done) | (simp; omega)) _).setCell (by first | omega | (simp; done) | (simp; omega)) _⟩
theorem pubShift_any (n0 : Bool) (a0 : Option Addr) (c0 : Nat) (L0 : List Nat) (x0 k : Int) (w : World) (h0 : Ns .u32 w a0 c0 L0) (hl0 : Lim L0) (hT : Tab 0 w) :
    Calls Tryd.prog 46 #[.agg #[.bool n0, .slice a0 L0.length c0, .int .i64 x0], .int .i64 k] w (RetVE w (pubD (shE n0 L0 x0 k) (shD (rightD n0 L0 x0) k)) (pubE (shE n0 L0 x0 k) (shD (rightD n0 L0 x0) k))) := by
  have CK := hid (fun w h => dyadCheck_any n0 a0 c0 L0 x0 w h hl0)
  have H0 := hid h0
  have HT := hid hT
  have zA0 : QL 25 ((w.alloc (.cells #[.bool n0, .slice a0 L0.length c0, .int .i64 x0] 25)).alloc (.cells #[.bool false, .slice none 0 0, .int .i64 0] 25)) w.heap.size n0 (.slice a0 L0.length c0) x0 := (QL.made rfl).alloc _
  have zR0 : QL 25 ((w.alloc (.cells #[.bool n0, .slice a0 L0.length c0, .int .i64 x0] 25)).alloc (.cells #[.bool false, .slice none 0 0, .int .i64 0] 25)) (w.heap.size + 1) false (.slice none 0 0) 0 := QL.made (by first | omega | (simp; done) | (simp; omega))
  have yb0 : Below w.heap.size w ((w.alloc (.cells #[.bool n0, .slice a0 L0.length c0, .int .i64 x0] 25)).alloc (.cells #[.bool false, .slice none 0 0, .int .i64 0] 25)) := by (repeat' (first | (with_reducible assumption) | (with_reducible exact Below.refl _ _) | (with_reducible refine below_al ?_ _) | (with_reducible refine below_drewN ?_ _) | (with_reducible refine Below.drew ?_) | (with_reducible refine Below.alloc ?_ ?_ _) | (with_reducible refine Below.setCell ?_ ?_ _) | (refine below_trans ?_ (by assumption)) | go_size))
  have NO := hid (show dyadE n0 L0 x0 = 0 → -20000 ≤ k → k ≤ 20000 → ∀ w, Ns .u32 w a0 c0 L0 → Tab 0 w → Calls Tryd.prog 99 #[.bool n0, .slice a0 L0.length c0, .int .i64 (x0 + k)] w (RetVD w (shD (rightD n0 L0 x0) k)) from fun h g1 g2 w k0 t => by
    obtain ⟨b1, b2, b3, hL, -, -⟩ := dyadE_zero hl0 h
    have hlen : L0.length = (limbs (lval L0)).length := congrArg List.length hL
    rw [hL] at k0
    rw [hlen]
    exact normD_any n0 a0 c0 (lval L0) (x0 + k) w k0 (by omega) (by omega) t)
  have WR := hid (show dyadE n0 L0 x0 = 0 → -20000 ≤ k → k ≤ 20000 → IntKind.i64.wrap (x0 + k) = x0 + k from fun h g1 g2 => by
    obtain ⟨b1, b2, b3, -⟩ := dyadE_zero hl0 h
    exact IntWalk.i64_in _ (by omega))
  have BO := hid (show ∀ v w, VD w (shD (rightD n0 L0 x0) k) v → Calls Tryd.prog 98 #[v] w (RetVE w (bdD (shD (rightD n0 L0 x0) k)) (bdE (shD (rightD n0 L0 x0) k))) from fun v w h => bounded_any v _ w h)
  obtain ⟨PD, hPD⟩ : ∃ z, z = pubD (shE n0 L0 x0 k) (shD (rightD n0 L0 x0) k) := ⟨_, rfl⟩
  obtain ⟨PE, hPE⟩ : ∃ z, z = pubE (shE n0 L0 x0 k) (shD (rightD n0 L0 x0) k) := ⟨_, rfl⟩
  rw [← hPD, ← hPE]
  unfold pubD shE at hPD
  unfold pubE shE at hPE
  generalize bdD (shD (rightD n0 L0 x0) k) = RD at *
  generalize bdE (shD (rightD n0 L0 x0) k) = RE at *
  generalize shD (rightD n0 L0 x0) k = R at *
  generalize dyadE n0 L0 x0 = E at *
  clear h0 hT
  by_cases hz : E = 0
  · rw [if_pos hz] at hPD hPE
    by_cases g1 : k < -20000
    · rw [if_neg (by omega)] at hPD
      rw [if_neg (by omega), if_neg (by omega)] at hPE
      clear NO WR
      subst hz hPD hPE
      go_enter Tryd.func46, Tryd.ntmps46
      obtain ⟨⟨j0, j1, -, -, -⟩, j2, -⟩ := id zA0
      go_upto_region 2 with (go_at_call 18; (with_reducible refine (CK.out _ (H0.out.below yb0)).mono ?_); rintro en w1 ⟨rfl, hb1⟩)
      have zR3 := zR0.below hb1
      have yb3 := below_trans yb0 hb1
      obtain ⟨⟨k0, k1, f0, f1, hs2⟩, k2, f2⟩ := id zR3
      go_wp2_with fail
      refine bodyPost_ret (by simp [results, Tryd.results46, go_sem, k0, k1, k2]; try rfl) rfl ?_
      exact ⟨_, rfl, ⟨none, 0, rfl, Ns.nil⟩, ((yb3.setCell (by first | omega | (simp; done) | (simp; omega)) _).setCell (by first | omega | (simp; done) | (simp; omega)) _).setCell (by first | omega | (simp; done) | (simp; omega)) _⟩
    · by_cases g2 : 20000 < k
      · rw [if_neg (by omega)] at hPD
        rw [if_neg (by omega), if_neg (by omega)] at hPE
        clear NO WR
        subst hz hPD hPE
        go_enter Tryd.func46, Tryd.ntmps46
        obtain ⟨⟨j0, j1, -, -, -⟩, j2, -⟩ := id zA0
        go_upto_region 2 with (go_at_call 18; (with_reducible refine (CK.out _ (H0.out.below yb0)).mono ?_); rintro en w1 ⟨rfl, hb1⟩)
        have zR3 := zR0.below hb1
        have yb3 := below_trans yb0 hb1
        obtain ⟨⟨k0, k1, f0, f1, hs2⟩, k2, f2⟩ := id zR3
        go_wp2_with fail
        refine bodyPost_ret (by simp [results, Tryd.results46, go_sem, k0, k1, k2]; try rfl) rfl ?_
        exact ⟨_, rfl, ⟨none, 0, rfl, Ns.nil⟩, ((yb3.setCell (by first | omega | (simp; done) | (simp; omega)) _).setCell (by first | omega | (simp; done) | (simp; omega)) _).setCell (by first | omega | (simp; done) | (simp; omega)) _⟩
      · rw [if_pos (by omega)] at hPD
        rw [if_pos (by omega)] at hPE
        have hw1 := WR.out hz (by omega) (by omega)
        have NO2 := hid (NO.out hz (by omega) (by omega))
        clear NO WR
        subst hz hPD hPE
        go_enter Tryd.func46, Tryd.ntmps46
        obtain ⟨⟨j0, j1, -, -, -⟩, j2, -⟩ := id zA0
        go_upto_region 2 with (go_at_call 18; (with_reducible refine (CK.out _ (H0.out.below yb0)).mono ?_); rintro en w1 ⟨rfl, hb1⟩)
        clear j0 j1 j2
        have zA1 := zA0.below hb1
        have zR1 := zR0.below hb1
        have yb1 := below_trans yb0 hb1
        obtain ⟨⟨j0, j1, -, -, -⟩, j2, -⟩ := id zA1
        go_wp2_with (first
          | (go_at_call 99; (with_reducible refine (NO2.out _ (H0.out.below yb1) (HT.out.below yb1)).mono ?_); rintro en w2 ⟨v2, rfl, hv2, hb2⟩)
          | (go_at_call 98; (with_reducible refine (BO.out _ _ hv2).mono ?_); rintro en w3 ⟨v3, rfl, ⟨a3, c3, rfl, hN3⟩, hb3⟩; have zR3 := (zR1.below hb2).below hb3; have yb3 := below_trans (below_trans yb1 hb2) hb3; obtain ⟨⟨k0, k1, f0, f1, hs2⟩, k2, f2⟩ := id zR3))
        refine bodyPost_ret (by simp [results, Tryd.results46, go_sem, k0, k1, k2]; try rfl) rfl ?_
        exact ⟨_, rfl, ⟨a3, c3, rfl, hN3.set3 zR3 (by intro x h; cases h) _ _ _⟩, ((yb3.setCell (by first | omega | (simp; done) | (simp; omega)) _).setCell (by first | omega | (simp; done) | (simp; omega)) _).setCell (by first | omega | (simp; done) | (simp; omega)) _⟩
  · rw [if_neg hz, if_neg hz] at hPD
    rw [if_neg hz, if_neg hz] at hPE
    have hzb : (E == 0) = false := beq_eq_false_iff_ne.2 hz
    clear NO WR hz
    subst hPD hPE
    go_enter Tryd.func46, Tryd.ntmps46
    obtain ⟨⟨j0, j1, -, -, -⟩, j2, -⟩ := id zA0
    go_upto_region 2 with (go_at_call 18; (with_reducible refine (CK.out _ (H0.out.below yb0)).mono ?_); rintro en w1 ⟨rfl, hb1⟩)
    have zR3 := zR0.below hb1
    have yb3 := below_trans yb0 hb1
    obtain ⟨⟨k0, k1, f0, f1, hs2⟩, k2, f2⟩ := id zR3
    go_wp2_with fail
    refine bodyPost_ret (by simp [results, Tryd.results46, go_sem, k0, k1, k2]; try rfl) rfl ?_
    exact ⟨_, rfl, ⟨none, 0, rfl, Ns.nil⟩, ((yb3.setCell (by first | omega | (simp; done) | (simp; omega)) _).setCell (by first | omega | (simp; done) | (simp; omega)) _).setCell (by first | omega | (simp; done) | (simp; omega)) _⟩
end Go.Proofs.YteaakbeemhmciaaDoor
set_option linter.unusedVariables false
set_option linter.unusedSimpArgs false
namespace Go.Ulp
open Go.RowKit
theorem VD.none_form {w : World} {v : Value} (h : VD w (0, 0) v) : ∃ am cm, v = .agg #[.bool false, .slice am 0 cm, .int .i64 0] := by
  obtain ⟨am, cm, rfl, -⟩ := h
  exact ⟨am, cm, by rw [show limbs ((0 : Int), (0 : Int)).1.natAbs = [] from limbs_zero]; rfl⟩
/-- a number's size in limbs and in bits -/
theorem limbs_le_bits (M n : Nat) : (limbs M).length ≤ n ↔ M < 2 ^ (32 * n) := by
  have h := digs_len_le 4294967296 (by omega) M n
  rw [Nat.pow_mul]; exact h
/-- a Dyad handed in a slice -/
def Fact.ds (n : Bool) (s : Value) (x : Int) : Fact := ⟨fun v w => ∃ g, v = .slice (some ⟨g, 0, none⟩) 1 1 ∧ DC w g 0 n s x, fun _ _ _ h hb => by
  obtain ⟨g, h1, h2⟩ := h
  exact ⟨g, h1, h2.below hb⟩⟩
theorem DC.mk1 {w : World} {n : Bool} {v : Value} {e : Int} {t : TypeId} : DC (w.alloc (.cells #[.bool n, v, .int .i64 e] t)) w.heap.size 0 n v e := by
  refine ⟨?_, ?_, ?_⟩ <;> rw [World.cell?_alloc_at (hn := rfl)] <;> rfl
theorem lim_limbs (M : Nat) : Lim (limbs M) := limbs_lim M
/-- a number in its one form, within the bounds, is a right Dyad -/
theorem dyadE_form (D : Dy) (hI : IsN D) (hB : bndB D = true) : dyadE (decide (D.1 < 0)) (limbs D.1.natAbs) D.2 = 0 := by
  unfold dyadE
  rw [if_neg (by unfold bndB at hB; rw [hB]; simp)]
  rcases hI with ⟨h1, h2⟩ | h
  · rw [h1, h2, if_pos (by rw [show limbs (0 : Int).natAbs = [] from limbs_zero]; rfl), if_neg (by simp)]
  · have hpos : 0 < D.1.natAbs := by omega
    have hl := (digs_len_pos 4294967296 (by omega) D.1.natAbs).2 hpos
    have hl' : 0 < (limbs D.1.natAbs).length := hl
    rw [if_neg (by omega)]
    have ht := (trim_iff (limbs D.1.natAbs)).1 (limbs_trim D.1.natAbs)
    have h0 : (limbs D.1.natAbs).getD 0 0 % 2 = D.1.natAbs % 2 := by
      have h1 := val_drop 4294967296 (limbs D.1.natAbs) 0 hl'
      rw [List.drop_zero] at h1
      have h3 := lval_limbs D.1.natAbs
      unfold lval at h3
      omega
    rw [if_neg (by
      intro hc
      rcases hc with hc | hc
      · rcases ht with h2 | h2
        · omega
        · exact h2 hc
      · omega)]
end Go.Ulp
namespace Go.Proofs.YteaakbeemhmciaaDoor
open Go.RowKit Go.Ulp
set_option linter.unusedVariables false
set_option linter.unusedSimpArgs false
set_option maxHeartbeats 2000000
set_option maxRecDepth 100000
/-- is it none? -/
theorem noDyad_any (v : Value) (w : World) (h : VD w (0, 0) v) : Calls Tryd.prog 23 #[v] w fun e w' => e = .returned (.bool true) ∧ Below w.heap.size w w' := by
  obtain ⟨am, cm, rfl⟩ := h.none_form
  clear h
  have zA : QL 25 (w.alloc (.cells #[.bool false, .slice am 0 cm, .int .i64 0] 25)) w.heap.size false (.slice am 0 cm) 0 := QL.made rfl
  obtain ⟨⟨j0, j1, -, -, -⟩, j2, -⟩ := id zA
  go_enter Tryd.func23, Tryd.ntmps23
  go_wp2_with fail
  refine bodyPost_ret (by simp [results, Tryd.results23, go_sem]; try rfl) rfl ?_
  exact ⟨rfl, below_alloc _ _⟩
theorem told_zero (v : Value) (x : Int) (qa : Option Addr) (qc m : Nat) (w : World) (h : VD w (0, 0) v) (hl : (zl x).length = 0) :
    Calls Tryd.prog 24 #[v, .int .i64 0, .agg #[.bool (zneg x), .slice qa (zl x).length qc, .int .i64 (m : Int)]] w fun e w' => e = .returned (.bool true) ∧ Below w.heap.size w w' := by
  obtain ⟨am, cm, rfl⟩ := h.none_form
  clear h
  have zA : QL 25 ((w.alloc (.cells #[.bool false, .slice am 0 cm, .int .i64 0] 25)).alloc (.cells #[.bool (zneg x), .slice qa (zl x).length qc, .int .i64 (m : Int)] 42)) w.heap.size false (.slice am 0 cm) 0 := (QL.made rfl).alloc _
  have zB : QL 42 ((w.alloc (.cells #[.bool false, .slice am 0 cm, .int .i64 0] 25)).alloc (.cells #[.bool (zneg x), .slice qa (zl x).length qc, .int .i64 (m : Int)] 42)) (w.heap.size + 1) (zneg x) (.slice qa (zl x).length qc) m := QL.made (by first | omega | (simp; done) | (simp; omega))
  have yb0 : Below w.heap.size w ((w.alloc (.cells #[.bool false, .slice am 0 cm, .int .i64 0] 25)).alloc (.cells #[.bool (zneg x), .slice qa (zl x).length qc, .int .i64 (m : Int)] 42)) := by (repeat' (first | (with_reducible assumption) | (with_reducible exact Below.refl _ _) | (with_reducible refine below_al ?_ _) | (with_reducible refine below_drewN ?_ _) | (with_reducible refine Below.drew ?_) | (with_reducible refine Below.alloc ?_ ?_ _) | (with_reducible refine Below.setCell ?_ ?_ _) | (refine below_trans ?_ (by assumption)) | go_size))
  rw [hl] at yb0 zA zB ⊢
  obtain ⟨⟨j0, j1, -, -, -⟩, j2, -⟩ := id zA
  obtain ⟨⟨i0, i1, -, -, -⟩, i2, -⟩ := id zB
  go_enter Tryd.func24, Tryd.ntmps24
  go_wp2_with fail
  refine bodyPost_ret (by simp [results, Tryd.results24, go_sem]; try rfl) rfl ?_
  exact ⟨rfl, yb0⟩
/-- none, where the bounds are broken -/
theorem told_large (v : Value) (x z : Int) (qa : Option Addr) (qc m n : Nat) (w : World) (h : VD w (0, 0) v) (h1 : Nz 3 w qa qc (zl x)) (hlx : (zl x).length ≤ 1000000) (hx0 : x ≠ 0) (hm : m ≤ 10000000) (hn : tw x.natAbs = n) (hz : x / pw n = z)
    (hb : bndB (z, (n : Int) - m) = false) (hnb : n ≤ 20000000) :
    Calls Tryd.prog 24 #[v, .int .i64 2, .agg #[.bool (zneg x), .slice qa (zl x).length qc, .int .i64 (m : Int)]] w fun e w' => e = .returned (.bool true) ∧ Below w.heap.size w w' := by
  obtain ⟨am, cm, rfl⟩ := h.none_form
  clear h
  have TW := hid (fun w h => ztwos_any qa qc x w h hlx hx0)
  have ZB := hid (fun a c w h => zabs_any a c z w h)
  have hxb : (((zl x).length : Int) == 0) = false := beq_eq_false_iff_ne.2 (fun h => hx0 ((zl_zero_iff x).1 (by omega)))
  rw [hn, hz] at TW
  have hw1 : IntKind.i64.wrap ((n : Int) - (m : Int)) = (n : Int) - (m : Int) := IntWalk.i64_in _ (by omega)
  have H1 := hid h1
  have zA : QL 25 ((w.alloc (.cells #[.bool false, .slice am 0 cm, .int .i64 0] 25)).alloc (.cells #[.bool (zneg x), .slice qa (zl x).length qc, .int .i64 (m : Int)] 42)) w.heap.size false (.slice am 0 cm) 0 := (QL.made rfl).alloc _
  have zB : QL 42 ((w.alloc (.cells #[.bool false, .slice am 0 cm, .int .i64 0] 25)).alloc (.cells #[.bool (zneg x), .slice qa (zl x).length qc, .int .i64 (m : Int)] 42)) (w.heap.size + 1) (zneg x) (.slice qa (zl x).length qc) m := QL.made (by first | omega | (simp; done) | (simp; omega))
  have yb0 : Below w.heap.size w ((w.alloc (.cells #[.bool false, .slice am 0 cm, .int .i64 0] 25)).alloc (.cells #[.bool (zneg x), .slice qa (zl x).length qc, .int .i64 (m : Int)] 42)) := by (repeat' (first | (with_reducible assumption) | (with_reducible exact Below.refl _ _) | (with_reducible refine below_al ?_ _) | (with_reducible refine below_drewN ?_ _) | (with_reducible refine Below.drew ?_) | (with_reducible refine Below.alloc ?_ ?_ _) | (with_reducible refine Below.setCell ?_ ?_ _) | (refine below_trans ?_ (by assumption)) | go_size))
  obtain ⟨⟨j0, j1, -, -, -⟩, j2, -⟩ := id zA
  obtain ⟨⟨i0, i1, -, -, -⟩, i2, -⟩ := id zB
  have hbb : ¬ ((limbs z.natAbs).length ≤ 400 ∧ -10000 ≤ (n : Int) - m ∧ (n : Int) - m ≤ 10000) := by
    intro hc; unfold bndB dyB at hb; exact absurd (decide_eq_true hc) (by rw [hb]; simp)
  have BT := hid (fun w => between_any ((n : Int) - m) (-10000) 10000 w)
  by_cases hE : -10000 ≤ (n : Int) - m ∧ (n : Int) - m ≤ 10000
  · rw [decide_eq_true hE] at BT
    obtain ⟨K, hK⟩ : ∃ K : Nat, K = 12800 := ⟨_, rfl⟩
    have ZP := hid (show ∀ w, Calls Tryd.prog 104 #[.int .i64 12800] w fun e w' => RetZ 3 w (pw K) e w' from fun w => by
      have := zpow_any K w (by omega)
      rwa [show (K : Int) = 12800 by omega] at this)
    have ZC := hid (show ∀ a c b d w, Nz 3 w a c (zl (z.natAbs : Int)) → Nz 3 w b d (zl (pw K)) → Calls Tryd.prog 65 #[.agg #[.bool (zneg (z.natAbs : Int)), .slice a (zl (z.natAbs : Int)).length c], .agg #[.bool (zneg (pw K)), .slice b (zl (pw K)).length d]] w fun e w' => e = .returned (.int .i64 (cmpI (z.natAbs : Int) (pw K))) ∧ Below w.heap.size w w' from fun a c b d w k0 k1 => by
      refine (zcmp_any a b c d (z.natAbs : Int) (pw K) w k0 k1).mono ?_
      rintro e w' ⟨rfl, hh⟩
      exact ⟨rfl, hh⟩)
    have hcm : 0 ≤ cmpI (z.natAbs : Int) (pw K) := by
      have h9 : ¬ (limbs z.natAbs).length ≤ 400 := fun h => hbb ⟨h, hE⟩
      rw [limbs_le_bits, show 32 * 400 = K by omega] at h9
      have h8 : pw K ≤ (z.natAbs : Int) := by rw [pw_nat]; omega
      unfold cmpI; rw [if_neg (by omega)]; split <;> omega
    generalize cmpI (z.natAbs : Int) (pw K) = cv at *
    clear h1 hn hz hb hbb hK hx0
    go_enter Tryd.func24, Tryd.ntmps24
    go_wp2_with (first
      | (go_at_call 103; (with_reducible refine (TW.out _ (H1.out.below yb0)).mono ?_); rintro e w1 ⟨az, cz, rfl, hz1, hb1⟩; have zA1 := zA.below hb1; have zB1 := zB.below hb1; obtain ⟨⟨k0, k1, -, -, -⟩, k2, -⟩ := id zA1; obtain ⟨⟨l0, l1, -, -, -⟩, l2, -⟩ := id zB1; have hlt1 := zB1.1.lt; have hlt2 : w.heap.size + 1 ≠ w1.heap.size := (by omega))
      | (go_at_call 27; (with_reducible refine (BT.out _).mono ?_); rintro e w2 ⟨rfl, rfl⟩)
      | (go_at_call 61; (refine (ZB.out _ _ _ (hz1.below (by (repeat' (first | (with_reducible assumption) | (with_reducible exact Below.refl _ _) | (with_reducible refine below_al ?_ _) | (with_reducible refine below_drewN ?_ _) | (with_reducible refine Below.drew ?_) | (with_reducible refine Below.alloc ?_ ?_ _) | (with_reducible refine Below.setCell ?_ ?_ _) | (refine below_trans ?_ (by assumption)) | go_size))))).mono ?_); rintro e w3 ⟨aa, ca, rfl, hz3, hb3⟩)
      | (go_at_call 104; (with_reducible refine (ZP.out _).mono ?_); rintro e w4 ⟨ap, cp, rfl, hz4, hb4⟩)
      | (go_at_call 65; (refine (ZC.out _ _ _ _ _ (hz3.below (by (repeat' (first | (with_reducible assumption) | (with_reducible exact Below.refl _ _) | (with_reducible refine below_al ?_ _) | (with_reducible refine below_drewN ?_ _) | (with_reducible refine Below.drew ?_) | (with_reducible refine Below.alloc ?_ ?_ _) | (with_reducible refine Below.setCell ?_ ?_ _) | (refine below_trans ?_ (by assumption)) | go_size)))) (hz4.below (by (repeat' (first | (with_reducible assumption) | (with_reducible exact Below.refl _ _) | (with_reducible refine below_al ?_ _) | (with_reducible refine below_drewN ?_ _) | (with_reducible refine Below.drew ?_) | (with_reducible refine Below.alloc ?_ ?_ _) | (with_reducible refine Below.setCell ?_ ?_ _) | (refine below_trans ?_ (by assumption)) | go_size))))).mono ?_); rintro e w5 ⟨rfl, hb5⟩))
    refine bodyPost_ret (by simp [results, Tryd.results24, go_sem]; try rfl) rfl ?_
    exact ⟨rfl, by (repeat' (first | (with_reducible assumption) | (with_reducible exact Below.refl _ _) | (with_reducible refine below_al ?_ _) | (with_reducible refine below_drewN ?_ _) | (with_reducible refine Below.drew ?_) | (with_reducible refine Below.alloc ?_ ?_ _) | (with_reducible refine Below.setCell ?_ ?_ _) | (refine below_trans ?_ (by assumption)) | go_size))⟩
  · rw [decide_eq_false hE] at BT
    clear h1 hn hz hb hbb hx0
    go_enter Tryd.func24, Tryd.ntmps24
    go_wp2_with (first
      | (go_at_call 103; (with_reducible refine (TW.out _ (H1.out.below yb0)).mono ?_); rintro e w1 ⟨az, cz, rfl, hz1, hb1⟩; have zA1 := zA.below hb1; have zB1 := zB.below hb1; obtain ⟨⟨k0, k1, -, -, -⟩, k2, -⟩ := id zA1; obtain ⟨⟨l0, l1, -, -, -⟩, l2, -⟩ := id zB1; have hlt1 := zB1.1.lt; have hlt2 : w.heap.size + 1 ≠ w1.heap.size := (by omega))
      | (go_at_call 27; (with_reducible refine (BT.out _).mono ?_); rintro e w2 ⟨rfl, rfl⟩))
    refine bodyPost_ret (by simp [results, Tryd.results24, go_sem]; try rfl) rfl ?_
    exact ⟨rfl, by (repeat' (first | (with_reducible assumption) | (with_reducible exact Below.refl _ _) | (with_reducible refine below_al ?_ _) | (with_reducible refine below_drewN ?_ _) | (with_reducible refine Below.drew ?_) | (with_reducible refine Below.alloc ?_ ?_ _) | (with_reducible refine Below.setCell ?_ ?_ _) | (refine below_trans ?_ (by assumption)) | go_size))⟩
theorem told_ok (v : Value) (D : Dy) (x : Int) (qa : Option Addr) (qc m n B : Nat) (hB : B ≤ 1000000) (w : World) (h : VD w D v) (h1 : Nz 3 w qa qc (zl x)) (hxA : x.natAbs < 2 ^ B) (hx0 : x ≠ 0) (hm : m ≤ 1000000) (hn : tw x.natAbs = n) (hz : x / pw n = D.1)
    (hD : nrm x (-(m : Int)) = D) (hnm : (n : Int) - m = D.2) (hb : bndB D = true) (hnb : n ≤ 20000000) :
    Calls Tryd.prog 24 #[v, .int .i64 0, .agg #[.bool (zneg x), .slice qa (zl x).length qc, .int .i64 (m : Int)]] w fun e w' => e = .returned (.bool true) ∧ Below w.heap.size w w' := by
  obtain ⟨am, cm, rfl, hN⟩ := h
  have hlx : (zl x).length ≤ 1000000 := Nat.le_trans (zl_len_bits x B hxA) hB
  have hI : IsN D := by rw [← hD]; exact nrm_isN _ _
  have hE := dyadE_form D hI hb
  obtain ⟨b1, b2, b3⟩ := dyB_true (show dyB (limbs D.1.natAbs).length D.2 = true from hb)
  have hD0 : D.1 ≠ 0 := by
    intro h0; apply hx0
    have h2 := congrArg Prod.fst hD
    exact (nrm_zero_iff x (-(m : Int))).1 (h2.trans h0)
  have hlb : (((limbs D.1.natAbs).length : Int) == 0) = false := beq_eq_false_iff_ne.2 (fun h => hD0 ((dy_len D).1 (by omega)))
  have TW := hid (fun w h => ztwos_any qa qc x w h hlx hx0)
  rw [hn, hz] at TW
  have ZB := hid (fun a c w h => zabs_any a c D.1 w h)
  have hxb : (((zl x).length : Int) == 0) = false := beq_eq_false_iff_ne.2 (fun h => hx0 ((zl_zero_iff x).1 (by omega)))
  have hw1 : IntKind.i64.wrap ((n : Int) - (m : Int)) = D.2 := by rw [hnm]; exact IntWalk.i64_in _ (by omega)
  have BT := hid (show ∀ w, Calls Tryd.prog 27 #[.int .i64 D.2, .int .i64 (-10000), .int .i64 10000] w fun e w' => e = .returned (.bool true) ∧ w = w' from fun w => by
    have := between_any D.2 (-10000) 10000 w
    rwa [decide_eq_true ⟨b2, b3⟩] at this)
  obtain ⟨K, hK⟩ : ∃ K : Nat, K = 12800 := ⟨_, rfl⟩
  have ZP := hid (show ∀ w, Calls Tryd.prog 104 #[.int .i64 12800] w fun e w' => RetZ 3 w (pw K) e w' from fun w => by
    have := zpow_any K w (by omega)
    rwa [show (K : Int) = 12800 by omega] at this)
  have ZC := hid (fun a c b d w h0 h1 => zcmp_any a b c d (D.1.natAbs : Int) (pw K) w h0 h1)
  have hcm : cmpI (D.1.natAbs : Int) (pw K) = -1 := by
    have h9 := b1
    rw [limbs_le_bits, show 32 * 400 = K by omega] at h9
    have h8 : (D.1.natAbs : Int) < pw K := by rw [pw_nat]; omega
    unfold cmpI; rw [if_pos h8]
  rw [hcm] at ZC
  have DR := hid (fun g w k h => dyadRight1_any g (decide (D.1 < 0)) am cm (limbs D.1.natAbs) D.2 w k h (lim_limbs _))
  rw [hE] at DR
  have QO := hid (show ∀ w, Ns .u32 w am cm (limbs D.1.natAbs) → Calls Tryd.prog 33 #[.agg #[.bool (decide (D.1 < 0)), .slice am (limbs D.1.natAbs).length cm, .int .i64 D.2]] w fun e w' => RetQD 3 w D 400000 200000 e w' from fun w h => by
    have := qof_any (decide (D.1 < 0)) D.1.natAbs am cm D.2 w h (by omega) (by omega)
    rw [sg_self] at this
    have e : nrm D.1 D.2 = D := nrm_of_isN D hI
    rwa [e] at this)
  have QC := hid (show ∀ u w, QD 3 w D 400000 200000 u → Nz 3 w qa qc (zl x) → Calls Tryd.prog 40 #[u, .agg #[.bool (zneg x), .slice qa (zl x).length qc, .int .i64 (m : Int)]] w fun e w' => e = .returned (.int .i64 0) ∧ Below w.heap.size w w' from fun u w k0 k1 => by
    have := qcmp_any u _ D D 400000 200000 B 1000000 w k0 ⟨x, m, qa, qc, rfl, k1, hD, hxA, hm⟩ (by omega) (by omega) (by omega) (by omega)
    rwa [cmpD_self] at this)
  have H1 := hid h1
  have HN := hid hN
  have hcap := hN.1
  generalize (limbs D.1.natAbs).length = nl at *
  generalize decide (D.1 < 0) = ng at *
  have zA : QL 25 ((w.alloc (.cells #[.bool ng, .slice am nl cm, .int .i64 D.2] 25)).alloc (.cells #[.bool (zneg x), .slice qa (zl x).length qc, .int .i64 (m : Int)] 42)) w.heap.size ng (.slice am nl cm) D.2 := (QL.made rfl).alloc _
  have zB : QL 42 ((w.alloc (.cells #[.bool ng, .slice am nl cm, .int .i64 D.2] 25)).alloc (.cells #[.bool (zneg x), .slice qa (zl x).length qc, .int .i64 (m : Int)] 42)) (w.heap.size + 1) (zneg x) (.slice qa (zl x).length qc) m := QL.made (by first | omega | (simp; done) | (simp; omega))
  have yb0 : Below w.heap.size w ((w.alloc (.cells #[.bool ng, .slice am nl cm, .int .i64 D.2] 25)).alloc (.cells #[.bool (zneg x), .slice qa (zl x).length qc, .int .i64 (m : Int)] 42)) := by (repeat' (first | (with_reducible assumption) | (with_reducible exact Below.refl _ _) | (with_reducible refine below_al ?_ _) | (with_reducible refine below_drewN ?_ _) | (with_reducible refine Below.drew ?_) | (with_reducible refine Below.alloc ?_ ?_ _) | (with_reducible refine Below.setCell ?_ ?_ _) | (refine below_trans ?_ (by assumption)) | go_size))
  clear h1 hN hn hz hnm hE hI hb hK hx0 hcm hD0 hxA
  go_enter Tryd.func24, Tryd.ntmps24
  go_upto_region 1 with fail
  have hN2 := HN.out.below yb0
  have h12 := H1.out.below yb0
  obtain ⟨W2, hW2⟩ : ∃ W, W = ((w.alloc (.cells #[.bool ng, .slice am nl cm, .int .i64 D.2] 25)).alloc (.cells #[.bool (zneg x), .slice qa (zl x).length qc, .int .i64 (m : Int)] 42)) := ⟨_, rfl⟩
  rw [← hW2] at zA zB yb0 hN2 h12 ⊢
  clear hW2
  obtain ⟨⟨j0, j1, -, -, -⟩, j2, -⟩ := id zA
  obtain ⟨⟨i0, i1, -, -, -⟩, i2, -⟩ := id zB
  go_upto_region 8 with (first
    | (go_at_call 103; (with_reducible refine (TW.out _ h12).mono ?_); rintro e w1 ⟨az, cz, rfl, hz1, hb1⟩; have zA1 := zA.below hb1; have zB1 := zB.below hb1; obtain ⟨⟨k0, k1, -, -, -⟩, k2, -⟩ := id zA1; obtain ⟨⟨l0, l1, -, -, -⟩, l2, -⟩ := id zB1; have hlt1 := zB1.1.lt; have hlt2 : w.heap.size + 1 ≠ w1.heap.size := (by omega))
    | (go_at_call 27; (with_reducible refine (BT.out _).mono ?_); rintro e w2 ⟨rfl, rfl⟩)
    | (go_at_call 61; (refine (ZB.out _ _ _ (hz1.below (by (repeat' (first | (with_reducible assumption) | (with_reducible exact Below.refl _ _) | (with_reducible refine below_al ?_ _) | (with_reducible refine below_drewN ?_ _) | (with_reducible refine Below.drew ?_) | (with_reducible refine Below.alloc ?_ ?_ _) | (with_reducible refine Below.setCell ?_ ?_ _) | (refine below_trans ?_ (by assumption)) | go_size))))).mono ?_); rintro e w3 ⟨aa, ca, rfl, hz3, hb3⟩)
    | (go_at_call 104; (with_reducible refine (ZP.out _).mono ?_); rintro e w4 ⟨ap, cp, rfl, hz4, hb4⟩)
    | (go_at_call 65; (refine (ZC.out _ _ _ _ _ (hz3.below (by (repeat' (first | (with_reducible assumption) | (with_reducible exact Below.refl _ _) | (with_reducible refine below_al ?_ _) | (with_reducible refine below_drewN ?_ _) | (with_reducible refine Below.drew ?_) | (with_reducible refine Below.alloc ?_ ?_ _) | (with_reducible refine Below.setCell ?_ ?_ _) | (refine below_trans ?_ (by assumption)) | go_size)))) (hz4.below (by (repeat' (first | (with_reducible assumption) | (with_reducible exact Below.refl _ _) | (with_reducible refine below_al ?_ _) | (with_reducible refine below_drewN ?_ _) | (with_reducible refine Below.drew ?_) | (with_reducible refine Below.alloc ?_ ?_ _) | (with_reducible refine Below.setCell ?_ ?_ _) | (refine below_trans ?_ (by assumption)) | go_size))))).mono ?_); rintro e w5 ⟨rfl, hb5⟩; have yb5 : Below W2.heap.size W2 w5 := (by (repeat' (first | (with_reducible assumption) | (with_reducible exact Below.refl _ _) | (with_reducible refine below_al ?_ _) | (with_reducible refine below_drewN ?_ _) | (with_reducible refine Below.drew ?_) | (with_reducible refine Below.alloc ?_ ?_ _) | (with_reducible refine Below.setCell ?_ ?_ _) | (refine below_trans ?_ (by assumption)) | go_size)))))
  have zA5 := zA.below yb5
  have zB5 := zB.below yb5
  have hN5 := hN2.below yb5
  have h15 := h12.below yb5
  have ybw := below_trans yb0 yb5
  clear hb1 hb3 hb4 hb5 zA1 zB1 k0 k1 k2 l0 l1 l2 j0 j1 j2 i0 i1 i2 hz1 hz3 hz4 hlt1 hlt2 hw1
  refine wp_region_grow 16 [60, 61, 62, 63, 64, 65, 66, 67, 68, 69, 70, 71, 72, 73, 74, 6] [Fact.is (.int .i64 0), Fact.is (.bool true), Fact.is (.bool true), Fact.is (.agg #[.bool ng, .slice am nl cm, .int .i64 D.2]), Fact.ds ng (.slice am nl cm) D.2, Fact.is (.int .i64 0), Fact.is (.bool true), Fact.is (.bool true), Fact.is (.bool true), Fact.is (.agg #[.bool ng, .slice am nl cm, .int .i64 D.2]), Fact.q 3 D 400000 200000, Fact.is (.agg #[.bool (zneg x), .slice qa (zl x).length qc, .int .i64 (m : Int)]), Fact.is (.int .i64 0), Fact.is (.bool true), Fact.is (.bool true), Fact.is (.bool true)] (by kernel_rfl) (by kernel_rfl) ⟨?o0, ?o1, ?o2, ?o3, ?o4, ?o5, ?o6, ?o7, ?o8, ?o9, ?o10, ?o11, ?o12, ?o13, ?o14, ?o15, trivial⟩ ?after
  case o0 => (refine StepOK.plain rfl ?_; intro ρ w1 R hρ hb hp hR; have e1 : ρ (.tmp 1) = .int .i64 0 := hρ.tmp 1 rfl; have hcon := hρ.con; have hfn := hρ.fn; clear hρ hp; unfold OpRun; go_simp; exact hR _ _ (Below.refl _ _) rfl)
  case o1 => (refine StepOK.plain rfl ?_; intro ρ w1 R hρ hb hp hR; have e60 : ρ (.tmp 60) = _ := hp 0 60 rfl rfl; have hcon := hρ.con; have hfn := hρ.fn; clear hρ hp; unfold OpRun; go_simp; exact hR _ _ (Below.refl _ _) rfl)
  case o2 => (refine StepOK.plain rfl ?_; intro ρ w1 R hρ hb hp hR; have e61 : ρ (.tmp 61) = _ := hp 1 61 rfl rfl; have hcon := hρ.con; have hfn := hρ.fn; clear hρ hp; unfold OpRun; go_simp; exact hR _ _ (Below.refl _ _) rfl)
  case o3 => (intro ρ w1 R hρ hb hp hR; have eg : ρ (.tmp 62) = .bool true := hp 2 62 rfl rfl; refine ⟨fun _ => ?_, fun hg => absurd hg (by simp [guardOf, eg])⟩; clear eg; have e3 : ρ (.tmp 3) = .pointer (some ⟨w.heap.size, 0, none⟩) := hρ.tmp 3 rfl; obtain ⟨⟨j0, j1, -, -, -⟩, j2, -⟩ := zA5.below hb; have hcon := hρ.con; have hfn := hρ.fn; clear hρ hp; unfold OpRun; go_simp; exact hR _ _ (Below.refl _ _) rfl)
  case o4 => (intro ρ w1 R hρ hb hp hR; have eg : ρ (.tmp 62) = .bool true := hp 2 62 rfl rfl; refine ⟨fun _ => ?_, fun hg => absurd hg (by simp [guardOf, eg])⟩; clear eg; have e63 : ρ (.tmp 63) = _ := hp 3 63 rfl rfl; have hcon := hρ.con; have hfn := hρ.fn; clear hρ hp; unfold OpRun; go_simp; exact hR _ _ (below_alloc _ _) ⟨_, rfl, DC.mk1⟩)
  case o5 => (intro ρ w1 R hρ hb hp hR; have eg : ρ (.tmp 62) = .bool true := hp 2 62 rfl rfl; refine ⟨fun _ => ?_, fun hg => absurd hg (by simp [guardOf, eg])⟩; clear eg; have f64 := hp 4 64 rfl rfl; obtain ⟨g64, e64, hd64⟩ := f64; have hcon := hρ.con; have hfn := hρ.fn; clear hρ hp; unfold OpRun; go_simp; (refine (DR.out _ _ hd64 (hN5.below hb)).mono ?_; rintro e wn ⟨rfl, hbn⟩; exact ⟨_, rfl, hR _ _ hbn rfl⟩))
  case o6 => (intro ρ w1 R hρ hb hp hR; have eg : ρ (.tmp 62) = .bool true := hp 2 62 rfl rfl; refine ⟨fun _ => ?_, fun hg => absurd hg (by simp [guardOf, eg])⟩; clear eg; have e65 : ρ (.tmp 65) = _ := hp 5 65 rfl rfl; have hcon := hρ.con; have hfn := hρ.fn; clear hρ hp; unfold OpRun; go_simp; exact hR _ _ (Below.refl _ _) rfl)
  case o7 => (refine StepOK.plain rfl ?_; intro ρ w1 R hρ hb hp hR; have e62 : ρ (.tmp 62) = _ := hp 2 62 rfl rfl; have e66 : ρ (.tmp 66) = _ := hp 6 66 rfl rfl; have hcon := hρ.con; have hfn := hρ.fn; clear hρ hp; unfold OpRun; go_simp; exact hR _ _ (Below.refl _ _) rfl)
  case o8 => (refine StepOK.plain rfl ?_; intro ρ w1 R hρ hb hp hR; have e67 : ρ (.tmp 67) = _ := hp 7 67 rfl rfl; have hcon := hρ.con; have hfn := hρ.fn; clear hρ hp; unfold OpRun; go_simp; exact hR _ _ (Below.refl _ _) rfl)
  case o9 => (intro ρ w1 R hρ hb hp hR; have eg : ρ (.tmp 68) = .bool true := hp 8 68 rfl rfl; refine ⟨fun _ => ?_, fun hg => absurd hg (by simp [guardOf, eg])⟩; clear eg; have e3 : ρ (.tmp 3) = .pointer (some ⟨w.heap.size, 0, none⟩) := hρ.tmp 3 rfl; obtain ⟨⟨j0, j1, -, -, -⟩, j2, -⟩ := zA5.below hb; have hcon := hρ.con; have hfn := hρ.fn; clear hρ hp; unfold OpRun; go_simp; exact hR _ _ (Below.refl _ _) rfl)
  case o10 => (intro ρ w1 R hρ hb hp hR; have eg : ρ (.tmp 68) = .bool true := hp 8 68 rfl rfl; refine ⟨fun _ => ?_, fun hg => absurd hg (by simp [guardOf, eg])⟩; clear eg; have e69 : ρ (.tmp 69) = _ := hp 9 69 rfl rfl; have hcon := hρ.con; have hfn := hρ.fn; clear hρ hp; unfold OpRun; go_simp; (refine (QO.out _ (hN5.below hb)).mono ?_; rintro e wn ⟨v9, rfl, hv9, hbn⟩; exact ⟨_, rfl, hR _ _ hbn hv9⟩))
  case o11 => (intro ρ w1 R hρ hb hp hR; have eg : ρ (.tmp 68) = .bool true := hp 8 68 rfl rfl; refine ⟨fun _ => ?_, fun hg => absurd hg (by simp [guardOf, eg])⟩; clear eg; have e5 : ρ (.tmp 5) = .pointer (some ⟨w.heap.size + 1, 0, none⟩) := hρ.tmp 5 rfl; obtain ⟨⟨i0, i1, -, -, -⟩, i2, -⟩ := zB5.below hb; have hcon := hρ.con; have hfn := hρ.fn; clear hρ hp; unfold OpRun; go_simp; exact hR _ _ (Below.refl _ _) rfl)
  case o12 => (intro ρ w1 R hρ hb hp hR; have eg : ρ (.tmp 68) = .bool true := hp 8 68 rfl rfl; refine ⟨fun _ => ?_, fun hg => absurd hg (by simp [guardOf, eg])⟩; clear eg; have f70 := hp 10 70 rfl rfl; have e71 : ρ (.tmp 71) = _ := hp 11 71 rfl rfl; have hcon := hρ.con; have hfn := hρ.fn; clear hρ hp; unfold OpRun; go_simp; (refine (QC.out _ _ f70 (h15.below hb)).mono ?_; rintro e wn ⟨rfl, hbn⟩; exact ⟨_, rfl, hR _ _ hbn rfl⟩))
  case o13 => (intro ρ w1 R hρ hb hp hR; have eg : ρ (.tmp 68) = .bool true := hp 8 68 rfl rfl; refine ⟨fun _ => ?_, fun hg => absurd hg (by simp [guardOf, eg])⟩; clear eg; have e72 : ρ (.tmp 72) = _ := hp 12 72 rfl rfl; have hcon := hρ.con; have hfn := hρ.fn; clear hρ hp; unfold OpRun; go_simp; exact hR _ _ (Below.refl _ _) rfl)
  case o14 => (refine StepOK.plain rfl ?_; intro ρ w1 R hρ hb hp hR; have e68 : ρ (.tmp 68) = _ := hp 8 68 rfl rfl; have e73 : ρ (.tmp 73) = _ := hp 13 73 rfl rfl; have hcon := hρ.con; have hfn := hρ.fn; clear hρ hp; unfold OpRun; go_simp; exact hR _ _ (Below.refl _ _) rfl)
  case o15 => (refine StepOK.plain rfl ?_; intro ρ w1 R hρ hb hp hR; have e74 : ρ (.tmp 74) = _ := hp 14 74 rfl rfl; have hcon := hρ.con; have hfn := hρ.fn; clear hρ hp; unfold OpRun; go_simp; exact hR _ _ (Below.refl _ _) rfl)
  case after =>
    intro u wn hb hf
    have e6 : u 6 = _ := hf 15 6 (by omega) rfl
    clear hf
    simp only [putAll, Act.put, List.setIfInBounds_toArray, List.set_cons_zero, List.set_cons_succ, List.drop_succ_cons, List.drop_zero, List.drop_nil]
    rw [e6]
    go_wp2_with fail
    refine bodyPost_ret (by simp [results, Tryd.results24, go_sem]; try rfl) rfl ?_
    exact ⟨rfl, below_trans ybw hb⟩
/-- just what is told of a number -/
theorem told_any (v u : Value) (D : Dy) (A T : Nat) (w : World) (hv : VD w (bdD D) v) (hu : QD 3 w D A T u) (hA : A ≤ 1000000) (hT : T ≤ 1000000) :
    Calls Tryd.prog 24 #[v, .int .i64 (bdE D), u] w fun e w' => e = .returned (.bool true) ∧ Below w.heap.size w w' := by
  obtain ⟨x, m, qa, qc, rfl, h1, hD, hxA, hm⟩ := hu
  by_cases hx0 : x = 0
  · subst hx0
    have e : D = (0, 0) := by rw [← hD]; rfl
    subst e
    exact told_zero v 0 qa qc m w hv rfl
  · have hlx : (zl x).length ≤ 1000000 := Nat.le_trans (zl_len_bits x A hxA) hA
    have hD1 : D.1 = x / pw (tw x.natAbs) := by rw [← hD]; unfold nrm; rw [if_neg hx0]
    have hD2 : D.2 = (tw x.natAbs : Int) - m := by rw [← hD]; unfold nrm; rw [if_neg hx0]; show -(m : Int) + _ = _; omega
    have hnb : tw x.natAbs ≤ 20000000 := by
      have := (tw_bound (x := x) (z := x / pw (tw x.natAbs)) (n := tw x.natAbs) (div_pw_tw x).symm (by intro h0; have := div_pw_tw x; rw [h0, Int.zero_mul] at this; exact hx0 this.symm) hlx).1
      omega
    cases hb : bndB D
    · have e1 : bdE D = 2 := by unfold bdE; rw [hb]; rfl
      have e2 : bdD D = (0, 0) := by unfold bdD; rw [hb]; rfl
      rw [e1]
      rw [e2] at hv
      refine told_large v x _ qa qc m _ w hv h1 hlx hx0 (by omega) rfl rfl ?_ hnb
      rw [← hD1, ← hD2]; exact hb
    · have e1 : bdE D = 0 := by unfold bdE; rw [hb]; rfl
      have e2 : bdD D = D := by unfold bdD; rw [hb]; rfl
      rw [e1]
      rw [e2] at hv
      exact told_ok v D x qa qc m _ A hA w hv h1 hxA hx0 (by omega) rfl hD1.symm hD hD2.symm hb hnb
end Go.Proofs.YteaakbeemhmciaaDoor
