/- dyad: what the package hands out: Cmp, Add, Sub, Mul, Shift, of whatever is handed in. -/
import Derived.Test.YteaakbeemhmciaaDoorDn5
import Derived.Test.YteaakbeemhmciaaDoorRegL
namespace Go.Ulp
open Go.RowKit
/-- what a right Dyad is worth -/
def rightD (n : Bool) (L : List Nat) (x : Int) : Dy := (sg n (lval L : Int), x)
theorem sg_lt (n : Bool) (m : Nat) (h : m = 0 → n = false) : decide (sg n (m : Int) < 0) = n := by
  cases n
  · exact decide_eq_false (by show ¬ (m : Int) < 0; omega)
  · have : m ≠ 0 := fun e => by have := h e; cases this
    exact decide_eq_true (by show -(m : Int) < 0; omega)
theorem right_abs (n : Bool) (L : List Nat) (x : Int) : (rightD n L x).1.natAbs = lval L := by unfold rightD; rw [sg_abs, Int.natAbs_natCast]
theorem vd_right {n : Bool} {L : List Nat} {x : Int} {ao : Option Addr} {cap : Nat} {w : World} (hl : Lim L) (hE : dyadE n L x = 0) (hN : Ns .u32 w ao cap L) :
    VD w (rightD n L x) (.agg #[.bool n, .slice ao L.length cap, .int .i64 x]) := by
  obtain ⟨b1, b2, b3, hL, hz, hod⟩ := dyadE_zero hl hE
  refine ⟨ao, cap, ?_, ?_⟩
  · rw [right_abs, ← hL]
    unfold rightD
    rw [sg_lt n _ (fun h => (hz h).1)]
  · rw [right_abs, ← hL]; exact hN
theorem right_bd {n : Bool} {L : List Nat} {x : Int} (hl : Lim L) (hE : dyadE n L x = 0) : (limbs (rightD n L x).1.natAbs).length ≤ 400 ∧ -10000 ≤ (rightD n L x).2 ∧ (rightD n L x).2 ≤ 10000 := by
  obtain ⟨b1, b2, b3, hL, hz, hod⟩ := dyadE_zero hl hE
  rw [right_abs, ← hL]; exact ⟨b1, b2, b3⟩
theorem right_nrm {n : Bool} {L : List Nat} {x : Int} (hl : Lim L) (hE : dyadE n L x = 0) : nrm (sg n (lval L : Int)) x = rightD n L x := by
  obtain ⟨b1, b2, b3, hL, hz, hod⟩ := dyadE_zero hl hE
  refine nrm_of_isN (rightD n L x) ?_
  unfold IsN
  rw [right_abs]
  by_cases h0 : lval L = 0
  · left
    refine ⟨?_, (hz h0).2⟩
    unfold rightD; rw [h0]; unfold sg; split <;> rfl
  · exact .inr (hod h0)
theorem dyadE2_zero {x y : Int} (h : dyadE2 x y = 0) : x = 0 ∧ y = 0 := by unfold dyadE2 at h; split at h <;> exact ⟨by omega, by omega⟩
/-- what is told of a number: itself, or none with the error of the bounds -/
def bdE (D : Dy) : Int := if bndB D = true then 0 else 2
def bdD (D : Dy) : Dy := if bndB D = true then D else (0, 0)
def pubE (E : Int) (D : Dy) : Int := if E = 0 then bdE D else E
def pubD (E : Int) (D : Dy) : Dy := if E = 0 then bdD D else (0, 0)
/-- a Dyad and an error -/
def RetVE (w : World) (D : Dy) (er : Int) (e : Ending) (w' : World) : Prop := ∃ v, e = .returned (.tuple #[v, .int .i64 er]) ∧ VD w' D v ∧ Below w.heap.size w w'
theorem RetBd.ve {w : World} {D : Dy} {e : Ending} {w' : World} (h : RetBd w D e w') : RetVE w (bdD D) (bdE D) e w' := h
def cmpE (E : Int) (D F : Dy) : Int := if E = 0 then cmpD D F else 0
def shE (n : Bool) (L : List Nat) (x k : Int) : Int := if dyadE n L x = 0 then (if -20000 ≤ k ∧ k ≤ 20000 then 0 else 1) else dyadE n L x
/-- a Dyad and an error among the values of a region -/
def Fact.ve (D : Dy) (er : Int) : Fact := ⟨fun v w => ∃ u, v = .tuple #[u, .int .i64 er] ∧ VD w D u, fun _ _ _ h hb => by
  obtain ⟨u, h1, h2⟩ := h
  exact ⟨u, h1, h2.below hb⟩⟩
def makeE (L : List Nat) (x : Int) : Int := if limbE L = 0 then (if -10000 ≤ x ∧ x ≤ 10000 then 0 else 1) else limbE L
theorem VD.none (w : World) : VD w (0, 0) (.agg #[.bool false, .slice none 0 0, .int .i64 0]) := ⟨Option.none, 0, rfl, Ns.nil⟩
end Go.Ulp
namespace Go.Proofs.YteaakbeemhmciaaDoor
open Go.RowKit Go.Ulp
set_option linter.unusedVariables false
set_option linter.unusedSimpArgs false
set_option maxHeartbeats 1000000
set_option maxRecDepth 100000
theorem check2_any (n0 : Bool) (a0 : Option Addr) (c0 : Nat) (L0 : List Nat) (x0 : Int) (n1 : Bool) (a1 : Option Addr) (c1 : Nat) (L1 : List Nat) (x1 : Int) (w : World) (h0 : Ns .u32 w a0 c0 L0) (hl0 : Lim L0) (h1 : Ns .u32 w a1 c1 L1) (hl1 : Lim L1) :
    Calls Tryd.prog 123 #[.agg #[.bool n0, .slice a0 L0.length c0, .int .i64 x0], .agg #[.bool n1, .slice a1 L1.length c1, .int .i64 x1]] w fun e w' => e = .returned (.int .i64 (dyadE2 (dyadE n0 L0 x0) (dyadE n1 L1 x1))) ∧ Below w.heap.size w w' := by
  have CA := hid (fun w h => dyadCheck_any n0 a0 c0 L0 x0 w h hl0)
  have CB := hid (fun w h => dyadCheck_any n1 a1 c1 L1 x1 w h hl1)
  have H0 := hid h0
  have H1 := hid h1
  have zA0 : QL 25 ((w.alloc (.cells #[.bool n0, .slice a0 L0.length c0, .int .i64 x0] 25)).alloc (.cells #[.bool n1, .slice a1 L1.length c1, .int .i64 x1] 25)) w.heap.size n0 (.slice a0 L0.length c0) x0 := (QL.made rfl).alloc _
  have zB0 : QL 25 ((w.alloc (.cells #[.bool n0, .slice a0 L0.length c0, .int .i64 x0] 25)).alloc (.cells #[.bool n1, .slice a1 L1.length c1, .int .i64 x1] 25)) (w.heap.size + 1) n1 (.slice a1 L1.length c1) x1 := QL.made (by first | omega | (simp; done) | (simp; omega))
  have yb0 : Below w.heap.size w ((w.alloc (.cells #[.bool n0, .slice a0 L0.length c0, .int .i64 x0] 25)).alloc (.cells #[.bool n1, .slice a1 L1.length c1, .int .i64 x1] 25)) := by (repeat' (first | (with_reducible assumption) | (with_reducible exact Below.refl _ _) | (with_reducible refine below_al ?_ _) | (with_reducible refine below_drewN ?_ _) | (with_reducible refine Below.drew ?_) | (with_reducible refine Below.alloc ?_ ?_ _) | (with_reducible refine Below.setCell ?_ ?_ _) | (refine below_trans ?_ (by assumption)) | go_size))
  generalize dyadE n0 L0 x0 = E0 at *
  generalize dyadE n1 L1 x1 = E1 at *
  clear h0 h1
  by_cases hz : E0 = 0
  · have H2 := hid (show dyadE2 E0 E1 = E1 by unfold dyadE2; rw [if_pos hz])
    subst hz
    go_enter Tryd.func123, Tryd.ntmps123
    go_upto_region 1 with fail
    obtain ⟨⟨j0, j1, -, -, -⟩, j2, -⟩ := id zA0
    go_upto_region 2 with (go_at_call 18; (with_reducible refine (CA.out _ (H0.out.below yb0)).mono ?_); rintro en w1 ⟨rfl, hb1⟩)
    have zB1 := zB0.below hb1
    have yb1 := below_trans yb0 hb1
    obtain ⟨⟨i0, i1, -, -, -⟩, i2, -⟩ := id zB1
    go_wp2_with (go_at_call 18; (with_reducible refine (CB.out _ (H1.out.below yb1)).mono ?_); rintro en w2 ⟨rfl, hb2⟩)
    refine bodyPost_ret (by simp [results, Tryd.results123, go_sem]; try rfl) rfl ?_
    rw [H2.out]
    exact ⟨rfl, below_trans yb1 hb2⟩
  · have H2 := hid (show dyadE2 E0 E1 = E0 by unfold dyadE2; rw [if_neg hz])
    have hzb : (E0 == 0) = false := beq_eq_false_iff_ne.2 hz
    clear hz
    go_enter Tryd.func123, Tryd.ntmps123
    go_upto_region 1 with fail
    obtain ⟨⟨j0, j1, -, -, -⟩, j2, -⟩ := id zA0
    go_upto_region 2 with (go_at_call 18; (with_reducible refine (CA.out _ (H0.out.below yb0)).mono ?_); rintro en w1 ⟨rfl, hb1⟩)
    go_wp2_with fail
    refine bodyPost_ret (by simp [results, Tryd.results123, go_sem]; try rfl) rfl ?_
    rw [H2.out]
    exact ⟨rfl, below_trans yb0 hb1⟩
theorem pubCmp_any (n0 : Bool) (a0 : Option Addr) (c0 : Nat) (L0 : List Nat) (x0 : Int) (n1 : Bool) (a1 : Option Addr) (c1 : Nat) (L1 : List Nat) (x1 : Int) (w : World) (h0 : Ns .u32 w a0 c0 L0) (hl0 : Lim L0) (h1 : Ns .u32 w a1 c1 L1) (hl1 : Lim L1) (hT : Tab 0 w) :
    Calls Tryd.prog 42 #[.agg #[.bool n0, .slice a0 L0.length c0, .int .i64 x0], .agg #[.bool n1, .slice a1 L1.length c1, .int .i64 x1]] w fun e w' => e = .returned (.tuple #[.int .i64 (cmpE (dyadE2 (dyadE n0 L0 x0) (dyadE n1 L1 x1)) (rightD n0 L0 x0) (rightD n1 L1 x1)), .int .i64 (dyadE2 (dyadE n0 L0 x0) (dyadE n1 L1 x1))]) ∧ Below w.heap.size w w' := by
  have CK := hid (fun w h0 h1 => check2_any n0 a0 c0 L0 x0 n1 a1 c1 L1 x1 w h0 hl0 h1 hl1)
  have H0 := hid h0
  have H1 := hid h1
  have HT := hid hT
  have zA0 : QL 25 ((w.alloc (.cells #[.bool n0, .slice a0 L0.length c0, .int .i64 x0] 25)).alloc (.cells #[.bool n1, .slice a1 L1.length c1, .int .i64 x1] 25)) w.heap.size n0 (.slice a0 L0.length c0) x0 := (QL.made rfl).alloc _
  have zB0 : QL 25 ((w.alloc (.cells #[.bool n0, .slice a0 L0.length c0, .int .i64 x0] 25)).alloc (.cells #[.bool n1, .slice a1 L1.length c1, .int .i64 x1] 25)) (w.heap.size + 1) n1 (.slice a1 L1.length c1) x1 := QL.made (by first | omega | (simp; done) | (simp; omega))
  have yb0 : Below w.heap.size w ((w.alloc (.cells #[.bool n0, .slice a0 L0.length c0, .int .i64 x0] 25)).alloc (.cells #[.bool n1, .slice a1 L1.length c1, .int .i64 x1] 25)) := by (repeat' (first | (with_reducible assumption) | (with_reducible exact Below.refl _ _) | (with_reducible refine below_al ?_ _) | (with_reducible refine below_drewN ?_ _) | (with_reducible refine Below.drew ?_) | (with_reducible refine Below.alloc ?_ ?_ _) | (with_reducible refine Below.setCell ?_ ?_ _) | (refine below_trans ?_ (by assumption)) | go_size))
  have CO := hid (show (dyadE2 (dyadE n0 L0 x0) (dyadE n1 L1 x1)) = 0 → ∀ w, Ns .u32 w a0 c0 L0 → Ns .u32 w a1 c1 L1 → Tab 0 w → Calls Tryd.prog 120 #[.agg #[.bool n0, .slice a0 L0.length c0, .int .i64 x0], .agg #[.bool n1, .slice a1 L1.length c1, .int .i64 x1]] w fun e w' => e = .returned (.int .i64 (cmpD (rightD n0 L0 x0) (rightD n1 L1 x1))) ∧ Below w.heap.size w w' from fun h w k0 k1 t => by
    obtain ⟨e0, e1⟩ := dyadE2_zero h
    have b0 := right_bd hl0 e0
    have b1 := right_bd hl1 e1
    exact compareD_any _ _ _ _ w (vd_right hl0 e0 k0) (vd_right hl1 e1 k1) (by omega) (by omega) ⟨by omega, by omega⟩ ⟨by omega, by omega⟩ t)
  obtain ⟨CE, hCE⟩ : ∃ z, z = cmpE (dyadE2 (dyadE n0 L0 x0) (dyadE n1 L1 x1)) (rightD n0 L0 x0) (rightD n1 L1 x1) := ⟨_, rfl⟩
  rw [← hCE]
  unfold cmpE at hCE
  generalize cmpD (rightD n0 L0 x0) (rightD n1 L1 x1) = cv at *
  generalize (dyadE2 (dyadE n0 L0 x0) (dyadE n1 L1 x1)) = E at *
  clear h0 h1 hT
  by_cases hz : E = 0
  · rw [if_pos hz] at hCE
    have CO2 := hid (CO.out hz)
    subst hz hCE
    go_enter Tryd.func42, Tryd.ntmps42
    go_upto_region 1 with fail
    obtain ⟨⟨j0, j1, -, -, -⟩, j2, -⟩ := id zA0
    obtain ⟨⟨i0, i1, -, -, -⟩, i2, -⟩ := id zB0
    go_upto_region 2 with (go_at_call 123; (with_reducible refine (CK.out _ (H0.out.below yb0) (H1.out.below yb0)).mono ?_); rintro en w1 ⟨rfl, hb1⟩)
    clear j0 j1 j2 i0 i1 i2
    have zA1 := zA0.below hb1
    have zB1 := zB0.below hb1
    have yb1 := below_trans yb0 hb1
    obtain ⟨⟨j0, j1, -, -, -⟩, j2, -⟩ := id zA1
    obtain ⟨⟨i0, i1, -, -, -⟩, i2, -⟩ := id zB1
    go_wp2_with (go_at_call 120; (with_reducible refine (CO2.out _ (H0.out.below yb1) (H1.out.below yb1) (HT.out.below yb1)).mono ?_); rintro en w2 ⟨rfl, hb2⟩)
    refine bodyPost_ret (by simp [results, Tryd.results42, go_sem]; try rfl) rfl ?_
    exact ⟨rfl, below_trans yb1 hb2⟩
  · rw [if_neg hz] at hCE
    have hzb : (E == 0) = false := beq_eq_false_iff_ne.2 hz
    subst hCE
    clear hz CO
    go_enter Tryd.func42, Tryd.ntmps42
    go_upto_region 1 with fail
    obtain ⟨⟨j0, j1, -, -, -⟩, j2, -⟩ := id zA0
    obtain ⟨⟨i0, i1, -, -, -⟩, i2, -⟩ := id zB0
    go_upto_region 2 with (go_at_call 123; (with_reducible refine (CK.out _ (H0.out.below yb0) (H1.out.below yb0)).mono ?_); rintro en w1 ⟨rfl, hb1⟩)
    go_wp2_with fail
    refine bodyPost_ret (by simp [results, Tryd.results42, go_sem]; try rfl) rfl ?_
    exact ⟨rfl, below_trans yb0 hb1⟩
theorem pubAdd_any (n0 : Bool) (a0 : Option Addr) (c0 : Nat) (L0 : List Nat) (x0 : Int) (n1 : Bool) (a1 : Option Addr) (c1 : Nat) (L1 : List Nat) (x1 : Int) (w : World) (h0 : Ns .u32 w a0 c0 L0) (hl0 : Lim L0) (h1 : Ns .u32 w a1 c1 L1) (hl1 : Lim L1) (hT : Tab 0 w) :
    Calls Tryd.prog 43 #[.agg #[.bool n0, .slice a0 L0.length c0, .int .i64 x0], .agg #[.bool n1, .slice a1 L1.length c1, .int .i64 x1]] w (RetVE w (pubD (dyadE2 (dyadE n0 L0 x0) (dyadE n1 L1 x1)) (addD (rightD n0 L0 x0) (rightD n1 L1 x1))) (pubE (dyadE2 (dyadE n0 L0 x0) (dyadE n1 L1 x1)) (addD (rightD n0 L0 x0) (rightD n1 L1 x1)))) := by
  have CK := hid (fun w h0 h1 => check2_any n0 a0 c0 L0 x0 n1 a1 c1 L1 x1 w h0 hl0 h1 hl1)
  have H0 := hid h0
  have H1 := hid h1
  have HT := hid hT
  have zA0 : QL 25 (((w.alloc (.cells #[.bool n0, .slice a0 L0.length c0, .int .i64 x0] 25)).alloc (.cells #[.bool n1, .slice a1 L1.length c1, .int .i64 x1] 25)).alloc (.cells #[.bool false, .slice none 0 0, .int .i64 0] 25)) w.heap.size n0 (.slice a0 L0.length c0) x0 := ((QL.made rfl).alloc _).alloc _
  have zB0 : QL 25 (((w.alloc (.cells #[.bool n0, .slice a0 L0.length c0, .int .i64 x0] 25)).alloc (.cells #[.bool n1, .slice a1 L1.length c1, .int .i64 x1] 25)).alloc (.cells #[.bool false, .slice none 0 0, .int .i64 0] 25)) (w.heap.size + 1) n1 (.slice a1 L1.length c1) x1 := (QL.made (by first | omega | (simp; done) | (simp; omega))).alloc _
  have zR0 : QL 25 (((w.alloc (.cells #[.bool n0, .slice a0 L0.length c0, .int .i64 x0] 25)).alloc (.cells #[.bool n1, .slice a1 L1.length c1, .int .i64 x1] 25)).alloc (.cells #[.bool false, .slice none 0 0, .int .i64 0] 25)) (w.heap.size + 1 + 1) false (.slice none 0 0) 0 := QL.made (by first | omega | (simp; done) | (simp; omega))
  have yb0 : Below w.heap.size w (((w.alloc (.cells #[.bool n0, .slice a0 L0.length c0, .int .i64 x0] 25)).alloc (.cells #[.bool n1, .slice a1 L1.length c1, .int .i64 x1] 25)).alloc (.cells #[.bool false, .slice none 0 0, .int .i64 0] 25)) := by (repeat' (first | (with_reducible assumption) | (with_reducible exact Below.refl _ _) | (with_reducible refine below_al ?_ _) | (with_reducible refine below_drewN ?_ _) | (with_reducible refine Below.drew ?_) | (with_reducible refine Below.alloc ?_ ?_ _) | (with_reducible refine Below.setCell ?_ ?_ _) | (refine below_trans ?_ (by assumption)) | go_size))
  have PL := hid (show (dyadE2 (dyadE n0 L0 x0) (dyadE n1 L1 x1)) = 0 → ∀ w, Ns .u32 w a0 c0 L0 → Ns .u32 w a1 c1 L1 → Tab 0 w → Calls Tryd.prog 117 #[.agg #[.bool n0, .slice a0 L0.length c0, .int .i64 x0], .agg #[.bool n1, .slice a1 L1.length c1, .int .i64 x1]] w (RetVD w (addD (rightD n0 L0 x0) (rightD n1 L1 x1))) from fun h w k0 k1 t => by
    obtain ⟨e0, e1⟩ := dyadE2_zero h
    have b0 := right_bd hl0 e0
    have b1 := right_bd hl1 e1
    exact plusD_any _ _ _ _ w (vd_right hl0 e0 k0) (vd_right hl1 e1 k1) (by omega) (by omega) ⟨by omega, by omega⟩ ⟨by omega, by omega⟩ t)
  have BO := hid (show ∀ v w, VD w (addD (rightD n0 L0 x0) (rightD n1 L1 x1)) v → Calls Tryd.prog 98 #[v] w (RetVE w (bdD (addD (rightD n0 L0 x0) (rightD n1 L1 x1))) (bdE (addD (rightD n0 L0 x0) (rightD n1 L1 x1)))) from fun v w h => bounded_any v _ w h)
  obtain ⟨PD, hPD⟩ : ∃ z, z = pubD (dyadE2 (dyadE n0 L0 x0) (dyadE n1 L1 x1)) (addD (rightD n0 L0 x0) (rightD n1 L1 x1)) := ⟨_, rfl⟩
  obtain ⟨PE, hPE⟩ : ∃ z, z = pubE (dyadE2 (dyadE n0 L0 x0) (dyadE n1 L1 x1)) (addD (rightD n0 L0 x0) (rightD n1 L1 x1)) := ⟨_, rfl⟩
  rw [← hPD, ← hPE]
  unfold pubD at hPD
  unfold pubE at hPE
  generalize bdD (addD (rightD n0 L0 x0) (rightD n1 L1 x1)) = RD at *
  generalize bdE (addD (rightD n0 L0 x0) (rightD n1 L1 x1)) = RE at *
  generalize (addD (rightD n0 L0 x0) (rightD n1 L1 x1)) = R at *
  generalize (dyadE2 (dyadE n0 L0 x0) (dyadE n1 L1 x1)) = E at *
  clear h0 h1 hT
  by_cases hz : E = 0
  · rw [if_pos hz] at hPD hPE
    have PL2 := hid (PL.out hz)
    clear PL
    subst hz hPD hPE
    go_enter Tryd.func43, Tryd.ntmps43
    go_upto_region 1 with fail
    obtain ⟨⟨j0, j1, -, -, -⟩, j2, -⟩ := id zA0
    obtain ⟨⟨i0, i1, -, -, -⟩, i2, -⟩ := id zB0
    go_upto_region 2 with (go_at_call 123; (with_reducible refine (CK.out _ (H0.out.below yb0) (H1.out.below yb0)).mono ?_); rintro en w1 ⟨rfl, hb1⟩)
    clear j0 j1 j2 i0 i1 i2
    have zA1 := zA0.below hb1
    have zB1 := zB0.below hb1
    have zR1 := zR0.below hb1
    have yb1 := below_trans yb0 hb1
    obtain ⟨⟨j0, j1, -, -, -⟩, j2, -⟩ := id zA1
    obtain ⟨⟨i0, i1, -, -, -⟩, i2, -⟩ := id zB1
    go_wp2_with (first
      | (go_at_call 117; (with_reducible refine (PL2.out _ (H0.out.below yb1) (H1.out.below yb1) (HT.out.below yb1)).mono ?_); rintro en w2 ⟨v2, rfl, hv2, hb2⟩)
      | (go_at_call 98; (with_reducible refine (BO.out _ _ hv2).mono ?_); rintro en w3 ⟨v3, rfl, ⟨a3, c3, rfl, hN3⟩, hb3⟩; have zR3 := (zR1.below hb2).below hb3; have yb3 := below_trans (below_trans yb1 hb2) hb3; obtain ⟨⟨k0, k1, f0, f1, hs2⟩, k2, f2⟩ := id zR3))
    refine bodyPost_ret (by simp [results, Tryd.results43, go_sem, k0, k1, k2]; try rfl) rfl ?_
    exact ⟨_, rfl, ⟨a3, c3, rfl, hN3.set3 zR3 (by intro x h; cases h) _ _ _⟩, ((yb3.setCell (by first | omega | (simp; done) | (simp; omega)) _).setCell (by first | omega | (simp; done) | (simp; omega)) _).setCell (by first | omega | (simp; done) | (simp; omega)) _⟩
  · rw [if_neg hz] at hPD hPE
    have hzb : (E == 0) = false := beq_eq_false_iff_ne.2 hz
    subst hPD hPE
    clear hz PL
    go_enter Tryd.func43, Tryd.ntmps43
    go_upto_region 1 with fail
    obtain ⟨⟨j0, j1, -, -, -⟩, j2, -⟩ := id zA0
    obtain ⟨⟨i0, i1, -, -, -⟩, i2, -⟩ := id zB0
    go_upto_region 2 with (go_at_call 123; (with_reducible refine (CK.out _ (H0.out.below yb0) (H1.out.below yb0)).mono ?_); rintro en w1 ⟨rfl, hb1⟩)
    have zR3 := zR0.below hb1
    have yb3 := below_trans yb0 hb1
    obtain ⟨⟨k0, k1, f0, f1, hs2⟩, k2, f2⟩ := id zR3
    go_wp2_with fail
    refine bodyPost_ret (by simp [results, Tryd.results43, go_sem, k0, k1, k2]; try rfl) rfl ?_
    exact ⟨_, rfl, ⟨none, 0, rfl, Ns.nil⟩, ((yb3.setCell (by first | omega | (simp; done) | (simp; omega)) _).setCell (by first | omega | (simp; done) | (simp; omega)) _).setCell (by first | omega | (simp; done) | (simp; omega)) _⟩
theorem pubMul_any (n0 : Bool) (a0 : Option Addr) (c0 : Nat) (L0 : List Nat) (x0 : Int) (n1 : Bool) (a1 : Option Addr) (c1 : Nat) (L1 : List Nat) (x1 : Int) (w : World) (h0 : Ns .u32 w a0 c0 L0) (hl0 : Lim L0) (h1 : Ns .u32 w a1 c1 L1) (hl1 : Lim L1) (hT : Tab 0 w) :
    Calls Tryd.prog 45 #[.agg #[.bool n0, .slice a0 L0.length c0, .int .i64 x0], .agg #[.bool n1, .slice a1 L1.length c1, .int .i64 x1]] w (RetVE w (pubD (dyadE2 (dyadE n0 L0 x0) (dyadE n1 L1 x1)) (mulD (rightD n0 L0 x0) (rightD n1 L1 x1))) (pubE (dyadE2 (dyadE n0 L0 x0) (dyadE n1 L1 x1)) (mulD (rightD n0 L0 x0) (rightD n1 L1 x1)))) := by
  have CK := hid (fun w h0 h1 => check2_any n0 a0 c0 L0 x0 n1 a1 c1 L1 x1 w h0 hl0 h1 hl1)
  have H0 := hid h0
  have H1 := hid h1
  have HT := hid hT
  have zA0 : QL 25 (((w.alloc (.cells #[.bool n0, .slice a0 L0.length c0, .int .i64 x0] 25)).alloc (.cells #[.bool n1, .slice a1 L1.length c1, .int .i64 x1] 25)).alloc (.cells #[.bool false, .slice none 0 0, .int .i64 0] 25)) w.heap.size n0 (.slice a0 L0.length c0) x0 := ((QL.made rfl).alloc _).alloc _
  have zB0 : QL 25 (((w.alloc (.cells #[.bool n0, .slice a0 L0.length c0, .int .i64 x0] 25)).alloc (.cells #[.bool n1, .slice a1 L1.length c1, .int .i64 x1] 25)).alloc (.cells #[.bool false, .slice none 0 0, .int .i64 0] 25)) (w.heap.size + 1) n1 (.slice a1 L1.length c1) x1 := (QL.made (by first | omega | (simp; done) | (simp; omega))).alloc _
  have zR0 : QL 25 (((w.alloc (.cells #[.bool n0, .slice a0 L0.length c0, .int .i64 x0] 25)).alloc (.cells #[.bool n1, .slice a1 L1.length c1, .int .i64 x1] 25)).alloc (.cells #[.bool false, .slice none 0 0, .int .i64 0] 25)) (w.heap.size + 1 + 1) false (.slice none 0 0) 0 := QL.made (by first | omega | (simp; done) | (simp; omega))
  have yb0 : Below w.heap.size w (((w.alloc (.cells #[.bool n0, .slice a0 L0.length c0, .int .i64 x0] 25)).alloc (.cells #[.bool n1, .slice a1 L1.length c1, .int .i64 x1] 25)).alloc (.cells #[.bool false, .slice none 0 0, .int .i64 0] 25)) := by (repeat' (first | (with_reducible assumption) | (with_reducible exact Below.refl _ _) | (with_reducible refine below_al ?_ _) | (with_reducible refine below_drewN ?_ _) | (with_reducible refine Below.drew ?_) | (with_reducible refine Below.alloc ?_ ?_ _) | (with_reducible refine Below.setCell ?_ ?_ _) | (refine below_trans ?_ (by assumption)) | go_size))
  have PL := hid (show (dyadE2 (dyadE n0 L0 x0) (dyadE n1 L1 x1)) = 0 → ∀ w, Ns .u32 w a0 c0 L0 → Ns .u32 w a1 c1 L1 → Tab 0 w → Calls Tryd.prog 119 #[.agg #[.bool n0, .slice a0 L0.length c0, .int .i64 x0], .agg #[.bool n1, .slice a1 L1.length c1, .int .i64 x1]] w (RetVD w (mulD (rightD n0 L0 x0) (rightD n1 L1 x1))) from fun h w k0 k1 t => by
    obtain ⟨e0, e1⟩ := dyadE2_zero h
    have b0 := right_bd hl0 e0
    have b1 := right_bd hl1 e1
    exact timesD_any _ _ _ _ w (vd_right hl0 e0 k0) (vd_right hl1 e1 k1) (by omega) (by omega) ⟨by omega, by omega⟩ ⟨by omega, by omega⟩ t)
  have BO := hid (show ∀ v w, VD w (mulD (rightD n0 L0 x0) (rightD n1 L1 x1)) v → Calls Tryd.prog 98 #[v] w (RetVE w (bdD (mulD (rightD n0 L0 x0) (rightD n1 L1 x1))) (bdE (mulD (rightD n0 L0 x0) (rightD n1 L1 x1)))) from fun v w h => bounded_any v _ w h)
  obtain ⟨PD, hPD⟩ : ∃ z, z = pubD (dyadE2 (dyadE n0 L0 x0) (dyadE n1 L1 x1)) (mulD (rightD n0 L0 x0) (rightD n1 L1 x1)) := ⟨_, rfl⟩
  obtain ⟨PE, hPE⟩ : ∃ z, z = pubE (dyadE2 (dyadE n0 L0 x0) (dyadE n1 L1 x1)) (mulD (rightD n0 L0 x0) (rightD n1 L1 x1)) := ⟨_, rfl⟩
  rw [← hPD, ← hPE]
  unfold pubD at hPD
  unfold pubE at hPE
  generalize bdD (mulD (rightD n0 L0 x0) (rightD n1 L1 x1)) = RD at *
  generalize bdE (mulD (rightD n0 L0 x0) (rightD n1 L1 x1)) = RE at *
  generalize (mulD (rightD n0 L0 x0) (rightD n1 L1 x1)) = R at *
  generalize (dyadE2 (dyadE n0 L0 x0) (dyadE n1 L1 x1)) = E at *
  clear h0 h1 hT
  by_cases hz : E = 0
  · rw [if_pos hz] at hPD hPE
    have PL2 := hid (PL.out hz)
    clear PL
    subst hz hPD hPE
    go_enter Tryd.func45, Tryd.ntmps45
    go_upto_region 1 with fail
    obtain ⟨⟨j0, j1, -, -, -⟩, j2, -⟩ := id zA0
    obtain ⟨⟨i0, i1, -, -, -⟩, i2, -⟩ := id zB0
    go_upto_region 2 with (go_at_call 123; (with_reducible refine (CK.out _ (H0.out.below yb0) (H1.out.below yb0)).mono ?_); rintro en w1 ⟨rfl, hb1⟩)
    clear j0 j1 j2 i0 i1 i2
    have zA1 := zA0.below hb1
    have zB1 := zB0.below hb1
    have zR1 := zR0.below hb1
    have yb1 := below_trans yb0 hb1
    obtain ⟨⟨j0, j1, -, -, -⟩, j2, -⟩ := id zA1
    obtain ⟨⟨i0, i1, -, -, -⟩, i2, -⟩ := id zB1
    go_wp2_with (first
      | (go_at_call 119; (with_reducible refine (PL2.out _ (H0.out.below yb1) (H1.out.below yb1) (HT.out.below yb1)).mono ?_); rintro en w2 ⟨v2, rfl, hv2, hb2⟩)
      | (go_at_call 98; (with_reducible refine (BO.out _ _ hv2).mono ?_); rintro en w3 ⟨v3, rfl, ⟨a3, c3, rfl, hN3⟩, hb3⟩; have zR3 := (zR1.below hb2).below hb3; have yb3 := below_trans (below_trans yb1 hb2) hb3; obtain ⟨⟨k0, k1, f0, f1, hs2⟩, k2, f2⟩ := id zR3))
    refine bodyPost_ret (by simp [results, Tryd.results45, go_sem, k0, k1, k2]; try rfl) rfl ?_
    exact ⟨_, rfl, ⟨a3, c3, rfl, hN3.set3 zR3 (by intro x h; cases h) _ _ _⟩, ((yb3.setCell (by first | omega | (simp; done) | (simp; omega)) _).setCell (by first | omega | (simp; done) | (simp; omega)) _).setCell (by first | omega | (simp; done) | (simp; omega)) _⟩
  · rw [if_neg hz] at hPD hPE
    have hzb : (E == 0) = false := beq_eq_false_iff_ne.2 hz
    subst hPD hPE
    clear hz PL
    go_enter Tryd.func45, Tryd.ntmps45
    go_upto_region 1 with fail
    obtain ⟨⟨j0, j1, -, -, -⟩, j2, -⟩ := id zA0
    obtain ⟨⟨i0, i1, -, -, -⟩, i2, -⟩ := id zB0
    go_upto_region 2 with (go_at_call 123; (with_reducible refine (CK.out _ (H0.out.below yb0) (H1.out.below yb0)).mono ?_); rintro en w1 ⟨rfl, hb1⟩)
    have zR3 := zR0.below hb1
    have yb3 := below_trans yb0 hb1
    obtain ⟨⟨k0, k1, f0, f1, hs2⟩, k2, f2⟩ := id zR3
    go_wp2_with fail
    refine bodyPost_ret (by simp [results, Tryd.results45, go_sem, k0, k1, k2]; try rfl) rfl ?_
    exact ⟨_, rfl, ⟨none, 0, rfl, Ns.nil⟩, ((yb3.setCell (by first | omega | (simp; done) | (simp; omega)) _).setCell (by first | omega | (simp; done) | (simp; omega)) _).setCell (by first | omega | (simp; done) | (simp; omega)) _⟩
theorem pubSub_any (n0 : Bool) (a0 : Option Addr) (c0 : Nat) (L0 : List Nat) (x0 : Int) (n1 : Bool) (a1 : Option Addr) (c1 : Nat) (L1 : List Nat) (x1 : Int) (w : World) (h0 : Ns .u32 w a0 c0 L0) (hl0 : Lim L0) (h1 : Ns .u32 w a1 c1 L1) (hl1 : Lim L1) (hT : Tab 0 w) :
    Calls Tryd.prog 44 #[.agg #[.bool n0, .slice a0 L0.length c0, .int .i64 x0], .agg #[.bool n1, .slice a1 L1.length c1, .int .i64 x1]] w (RetVE w (pubD (dyadE2 (dyadE n0 L0 x0) (dyadE n1 L1 x1)) (addD (rightD n0 L0 x0) (negD (rightD n1 L1 x1)))) (pubE (dyadE2 (dyadE n0 L0 x0) (dyadE n1 L1 x1)) (addD (rightD n0 L0 x0) (negD (rightD n1 L1 x1))))) := by
  have CK := hid (fun w h0 h1 => check2_any n0 a0 c0 L0 x0 n1 a1 c1 L1 x1 w h0 hl0 h1 hl1)
  have H0 := hid h0
  have H1 := hid h1
  have HT := hid hT
  have zA0 : QL 25 (((w.alloc (.cells #[.bool n0, .slice a0 L0.length c0, .int .i64 x0] 25)).alloc (.cells #[.bool n1, .slice a1 L1.length c1, .int .i64 x1] 25)).alloc (.cells #[.bool false, .slice none 0 0, .int .i64 0] 25)) w.heap.size n0 (.slice a0 L0.length c0) x0 := ((QL.made rfl).alloc _).alloc _
  have zB0 : QL 25 (((w.alloc (.cells #[.bool n0, .slice a0 L0.length c0, .int .i64 x0] 25)).alloc (.cells #[.bool n1, .slice a1 L1.length c1, .int .i64 x1] 25)).alloc (.cells #[.bool false, .slice none 0 0, .int .i64 0] 25)) (w.heap.size + 1) n1 (.slice a1 L1.length c1) x1 := (QL.made (by first | omega | (simp; done) | (simp; omega))).alloc _
  have zR0 : QL 25 (((w.alloc (.cells #[.bool n0, .slice a0 L0.length c0, .int .i64 x0] 25)).alloc (.cells #[.bool n1, .slice a1 L1.length c1, .int .i64 x1] 25)).alloc (.cells #[.bool false, .slice none 0 0, .int .i64 0] 25)) (w.heap.size + 1 + 1) false (.slice none 0 0) 0 := QL.made (by first | omega | (simp; done) | (simp; omega))
  have yb0 : Below w.heap.size w (((w.alloc (.cells #[.bool n0, .slice a0 L0.length c0, .int .i64 x0] 25)).alloc (.cells #[.bool n1, .slice a1 L1.length c1, .int .i64 x1] 25)).alloc (.cells #[.bool false, .slice none 0 0, .int .i64 0] 25)) := by (repeat' (first | (with_reducible assumption) | (with_reducible exact Below.refl _ _) | (with_reducible refine below_al ?_ _) | (with_reducible refine below_drewN ?_ _) | (with_reducible refine Below.drew ?_) | (with_reducible refine Below.alloc ?_ ?_ _) | (with_reducible refine Below.setCell ?_ ?_ _) | (refine below_trans ?_ (by assumption)) | go_size))
  have OP := hid (show (dyadE2 (dyadE n0 L0 x0) (dyadE n1 L1 x1)) = 0 → ∀ w, Ns .u32 w a1 c1 L1 → Calls Tryd.prog 118 #[.agg #[.bool n1, .slice a1 L1.length c1, .int .i64 x1]] w (RetVD w (negD (rightD n1 L1 x1))) from fun h w k1 => by
    obtain ⟨e0, e1⟩ := dyadE2_zero h
    have b1 := right_bd hl1 e1
    exact opp_any _ _ w (vd_right hl1 e1 k1) (by omega))
  have PL := hid (show (dyadE2 (dyadE n0 L0 x0) (dyadE n1 L1 x1)) = 0 → ∀ v w, Ns .u32 w a0 c0 L0 → VD w (negD (rightD n1 L1 x1)) v → Tab 0 w → Calls Tryd.prog 117 #[.agg #[.bool n0, .slice a0 L0.length c0, .int .i64 x0], v] w (RetVD w (addD (rightD n0 L0 x0) (negD (rightD n1 L1 x1)))) from fun h v w k0 k1 t => by
    obtain ⟨e0, e1⟩ := dyadE2_zero h
    have b0 := right_bd hl0 e0
    have b1 := right_bd hl1 e1
    exact plusD_any _ _ _ _ w (vd_right hl0 e0 k0) k1 (by omega) (by rw [negD_abs]; omega) ⟨by omega, by omega⟩ ⟨(by show -1000000 ≤ (rightD n1 L1 x1).2; omega), (by show (rightD n1 L1 x1).2 ≤ 1000000; omega)⟩ t)
  have BO := hid (show ∀ v w, VD w (addD (rightD n0 L0 x0) (negD (rightD n1 L1 x1))) v → Calls Tryd.prog 98 #[v] w (RetVE w (bdD (addD (rightD n0 L0 x0) (negD (rightD n1 L1 x1)))) (bdE (addD (rightD n0 L0 x0) (negD (rightD n1 L1 x1))))) from fun v w h => bounded_any v _ w h)
  obtain ⟨PD, hPD⟩ : ∃ z, z = pubD (dyadE2 (dyadE n0 L0 x0) (dyadE n1 L1 x1)) (addD (rightD n0 L0 x0) (negD (rightD n1 L1 x1))) := ⟨_, rfl⟩
  obtain ⟨PE, hPE⟩ : ∃ z, z = pubE (dyadE2 (dyadE n0 L0 x0) (dyadE n1 L1 x1)) (addD (rightD n0 L0 x0) (negD (rightD n1 L1 x1))) := ⟨_, rfl⟩
  rw [← hPD, ← hPE]
  unfold pubD at hPD
  unfold pubE at hPE
  generalize bdD (addD (rightD n0 L0 x0) (negD (rightD n1 L1 x1))) = RD at *
  generalize bdE (addD (rightD n0 L0 x0) (negD (rightD n1 L1 x1))) = RE at *
  generalize addD (rightD n0 L0 x0) (negD (rightD n1 L1 x1)) = R at *
  generalize negD (rightD n1 L1 x1) = NE at *
  generalize (dyadE2 (dyadE n0 L0 x0) (dyadE n1 L1 x1)) = E at *
  clear h0 h1 hT
  by_cases hz : E = 0
  · rw [if_pos hz] at hPD hPE
    have PL2 := hid (PL.out hz)
    have OP2 := hid (OP.out hz)
    clear PL OP
    subst hz hPD hPE
    go_enter Tryd.func44, Tryd.ntmps44
    go_upto_region 1 with fail
    obtain ⟨⟨j0, j1, -, -, -⟩, j2, -⟩ := id zA0
    obtain ⟨⟨i0, i1, -, -, -⟩, i2, -⟩ := id zB0
    go_upto_region 2 with (go_at_call 123; (with_reducible refine (CK.out _ (H0.out.below yb0) (H1.out.below yb0)).mono ?_); rintro en w1 ⟨rfl, hb1⟩)
    clear j0 j1 j2 i0 i1 i2
    have zA1 := zA0.below hb1
    have zB1 := zB0.below hb1
    have zR1 := zR0.below hb1
    have yb1 := below_trans yb0 hb1
    go_upto_region 4 with fail
    refine wp_region_growL 7 6 [14, 15, 16, 17, 18, 19, 20] [Fact.is (.agg #[.bool n0, .slice a0 L0.length c0, .int .i64 x0]), Fact.is (.agg #[.bool n1, .slice a1 L1.length c1, .int .i64 x1]), Fact.vd NE, Fact.vd R, Fact.ve PD PE, Fact.vd PD, Fact.is (.int .i64 PE)] [] (by kernel_rfl) (by kernel_rfl) rfl ⟨?o0, ?o1, ?o2, ?o3, ?o4, ?o5, ?o6, trivial⟩ ?late (fun d _ _ _ _ h => by cases d <;> exact h) ?after
    case o0 => (refine StepOKF.plain rfl ?_; intro ρ w1 R hρ hb hp hR; have e2 : ρ (.tmp 2) = .pointer (some ⟨w.heap.size, 0, none⟩) := hρ.tmp 2 rfl; obtain ⟨⟨j0, j1, -, -, -⟩, j2, -⟩ := zA1.below hb; replace hR := fun v w2 h1 h2 => hR v w2 h1 h2 (fun h => absurd h (by decide)); have hcon := hρ.con; have hfn := hρ.fn; clear hρ hp; unfold OpRun; go_simp; exact hR _ _ (Below.refl _ _) rfl)
    case o1 => (refine StepOKF.plain rfl ?_; intro ρ w1 R hρ hb hp hR; have e3 : ρ (.tmp 3) = .pointer (some ⟨w.heap.size + 1, 0, none⟩) := hρ.tmp 3 rfl; obtain ⟨⟨j0, j1, -, -, -⟩, j2, -⟩ := zB1.below hb; replace hR := fun v w2 h1 h2 => hR v w2 h1 h2 (fun h => absurd h (by decide)); have hcon := hρ.con; have hfn := hρ.fn; clear hρ hp; unfold OpRun; go_simp; exact hR _ _ (Below.refl _ _) rfl)
    case o2 => (refine StepOKF.plain rfl ?_; intro ρ w1 R hρ hb hp hR; have e15 : ρ (.tmp 15) = _ := hp 1 15 rfl rfl; replace hR := fun v w2 h1 h2 => hR v w2 h1 h2 (fun h => absurd h (by decide)); have hcon := hρ.con; have hfn := hρ.fn; clear hρ hp; unfold OpRun; go_simp; (refine (OP2.out _ (H1.out.below (below_trans yb1 hb))).mono ?_; rintro e wn ⟨v9, rfl, hv9, hbn⟩; exact ⟨_, rfl, hR _ _ hbn hv9⟩))
    case o3 => (refine StepOKF.plain rfl ?_; intro ρ w1 R hρ hb hp hR; have e14 : ρ (.tmp 14) = _ := hp 0 14 rfl rfl; have f16 := hp 2 16 rfl rfl; replace hR := fun v w2 h1 h2 => hR v w2 h1 h2 (fun h => absurd h (by decide)); have hcon := hρ.con; have hfn := hρ.fn; clear hρ hp; unfold OpRun; go_simp; (refine (PL2.out _ _ (H0.out.below (below_trans yb1 hb)) f16 (HT.out.below (below_trans yb1 hb))).mono ?_; rintro e wn ⟨v9, rfl, hv9, hbn⟩; exact ⟨_, rfl, hR _ _ hbn hv9⟩))
    case o4 => (refine StepOKF.plain rfl ?_; intro ρ w1 R hρ hb hp hR; have f17 := hp 3 17 rfl rfl; replace hR := fun v w2 h1 h2 => hR v w2 h1 h2 (fun h => absurd h (by decide)); have hcon := hρ.con; have hfn := hρ.fn; clear hρ hp; unfold OpRun; go_simp; (refine (BO.out _ _ f17).mono ?_; rintro e wn ⟨v9, rfl, hv9, hbn⟩; exact ⟨_, rfl, hR _ _ hbn ⟨v9, rfl, hv9⟩⟩))
    case o5 => (refine StepOKF.plain rfl ?_; intro ρ w1 R hρ hb hp hR; have f18 := hp 4 18 rfl rfl; replace hR := fun v w2 h1 h2 => hR v w2 h1 h2 (fun h => absurd h (by decide)); have hcon := hρ.con; have hfn := hρ.fn; clear hρ hp; unfold OpRun; go_simp; (obtain ⟨v9, e18, hv9⟩ := f18; rw [e18]; exact hR _ _ (Below.refl _ _) hv9))
    case o6 => (refine StepOKF.plain rfl ?_; intro ρ w1 R hρ hb hp hR; have f18 := hp 4 18 rfl rfl; obtain ⟨v9, e18, hv9⟩ := f18; replace hR := fun v w2 h1 h2 => hR v w2 h1 h2 (fun h => absurd h (by decide)); have hcon := hρ.con; have hfn := hρ.fn; clear hρ hp; unfold OpRun; go_simp; exact hR _ _ (Below.refl _ _) rfl)
    case late =>
      intro o ho
      simp only [List.getElem?_cons_succ, List.getElem?_cons_zero, Option.some.injEq] at ho
      subst ho
      refine ⟨rfl, ?_⟩
      intro ρ w1 hρ hb hp
      have f18 := hp 4 18 rfl rfl
      obtain ⟨v9, e18, hv9⟩ := f18
      refine ⟨_, ?_, rfl⟩
      intro w2
      have hcon := hρ.con
      go_simp
      try rfl
    case after =>
      intro u wn hb hf hd
      have f19 := hf 5 19 (by omega) rfl
      have e20 : u 20 = _ := hf 6 20 (by omega) rfl
      clear hf hd
      simp only [putAll, Act.put, List.setIfInBounds_toArray, List.set_cons_zero, List.set_cons_succ, List.drop_succ_cons, List.drop_zero, List.drop_nil]
      rw [e20]
      obtain ⟨a3, c3, e19, hN3⟩ := f19
      rw [e19]
      clear e19
      have zR3 := zR1.below hb
      have yb3 := below_trans yb1 hb
      obtain ⟨⟨k0, k1, f0, f1, hs2⟩, k2, f2⟩ := id zR3
      go_wp2_with fail
      refine bodyPost_ret (by simp [results, Tryd.results44, go_sem, k0, k1, k2]; try rfl) rfl ?_
      exact ⟨_, rfl, ⟨a3, c3, rfl, hN3.set3 zR3 (by intro x h; cases h) _ _ _⟩, ((yb3.setCell (by first | omega | (simp; done) | (simp; omega)) _).setCell (by first | omega | (simp; done) | (simp; omega)) _).setCell (by first | omega | (simp; done) | (simp; omega)) _⟩
  · clear OP
    rw [if_neg hz] at hPD hPE
    have hzb : (E == 0) = false := beq_eq_false_iff_ne.2 hz
    subst hPD hPE
    clear hz PL
    go_enter Tryd.func44, Tryd.ntmps44
    go_upto_region 1 with fail
    obtain ⟨⟨j0, j1, -, -, -⟩, j2, -⟩ := id zA0
    obtain ⟨⟨i0, i1, -, -, -⟩, i2, -⟩ := id zB0
    go_upto_region 2 with (go_at_call 123; (with_reducible refine (CK.out _ (H0.out.below yb0) (H1.out.below yb0)).mono ?_); rintro en w1 ⟨rfl, hb1⟩)
    have zR3 := zR0.below hb1
    have yb3 := below_trans yb0 hb1
    obtain ⟨⟨k0, k1, f0, f1, hs2⟩, k2, f2⟩ := id zR3
    go_wp2_with fail
    refine bodyPost_ret (by simp [results, Tryd.results44, go_sem, k0, k1, k2]; try rfl) rfl ?_
    exact ⟨_, rfl, ⟨none, 0, rfl, Ns.nil⟩, ((yb3.setCell (by first | omega | (simp; done) | (simp; omega)) _).setCell (by first | omega | (simp; done) | (simp; omega)) _).setCell (by first | omega | (simp; done) | (simp; omega)) _⟩
theorem pubShift_any (n0 : Bool) (a0 : Option Addr) (c0 : Nat) (L0 : List Nat) (x0 k : Int) (w : World) (h0 : Ns .u32 w a0 c0 L0) (hl0 : Lim L0) (hT : Tab 0 w) :
    Calls Tryd.prog 46 #[.agg #[.bool n0, .slice a0 L0.length c0, .int .i64 x0], .int .i64 k] w (RetVE w (pubD (shE n0 L0 x0 k) (shD (rightD n0 L0 x0) k)) (pubE (shE n0 L0 x0 k) (shD (rightD n0 L0 x0) k))) := by
  have CK := hid (fun w h => dyadCheck_any n0 a0 c0 L0 x0 w h hl0)
  have H0 := hid h0
  have HT := hid hT
  have zA0 : QL 25 ((w.alloc (.cells #[.bool n0, .slice a0 L0.length c0, .int .i64 x0] 25)).alloc (.cells #[.bool false, .slice none 0 0, .int .i64 0] 25)) w.heap.size n0 (.slice a0 L0.length c0) x0 := (QL.made rfl).alloc _
  have zR0 : QL 25 ((w.alloc (.cells #[.bool n0, .slice a0 L0.length c0, .int .i64 x0] 25)).alloc (.cells #[.bool false, .slice none 0 0, .int .i64 0] 25)) (w.heap.size + 1) false (.slice none 0 0) 0 := QL.made (by first | omega | (simp; done) | (simp; omega))
  have yb0 : Below w.heap.size w ((w.alloc (.cells #[.bool n0, .slice a0 L0.length c0, .int .i64 x0] 25)).alloc (.cells #[.bool false, .slice none 0 0, .int .i64 0] 25)) := by (repeat' (first | (with_reducible assumption) | (with_reducible exact Below.refl _ _) | (with_reducible refine below_al ?_ _) | (with_reducible refine below_drewN ?_ _) | (with_reducible refine Below.drew ?_) | (with_reducible refine Below.alloc ?_ ?_ _) | (with_reducible refine Below.setCell ?_ ?_ _) | (refine below_trans ?_ (by assumption)) | go_size))
  have NO := hid (show dyadE n0 L0 x0 = 0 → -20000 ≤ k → k ≤ 20000 → ∀ w, Ns .u32 w a0 c0 L0 → Tab 0 w → Calls Tryd.prog 99 #[.bool n0, .slice a0 L0.length c0, .int .i64 (x0 + k)] w (RetVD w (shD (rightD n0 L0 x0) k)) from fun h g1 g2 w k0 t => by
    obtain ⟨b1, b2, b3, hL, -, -⟩ := dyadE_zero hl0 h
    have hlen : L0.length = (limbs (lval L0)).length := congrArg List.length hL
    rw [hL] at k0
    rw [hlen]
    exact normD_any n0 a0 c0 (lval L0) (x0 + k) w k0 (by omega) (by omega) t)
  have WR := hid (show dyadE n0 L0 x0 = 0 → -20000 ≤ k → k ≤ 20000 → IntKind.i64.wrap (x0 + k) = x0 + k from fun h g1 g2 => by
    obtain ⟨b1, b2, b3, -⟩ := dyadE_zero hl0 h
    exact IntWalk.i64_in _ (by omega))
  have BO := hid (show ∀ v w, VD w (shD (rightD n0 L0 x0) k) v → Calls Tryd.prog 98 #[v] w (RetVE w (bdD (shD (rightD n0 L0 x0) k)) (bdE (shD (rightD n0 L0 x0) k))) from fun v w h => bounded_any v _ w h)
  obtain ⟨PD, hPD⟩ : ∃ z, z = pubD (shE n0 L0 x0 k) (shD (rightD n0 L0 x0) k) := ⟨_, rfl⟩
  obtain ⟨PE, hPE⟩ : ∃ z, z = pubE (shE n0 L0 x0 k) (shD (rightD n0 L0 x0) k) := ⟨_, rfl⟩
  rw [← hPD, ← hPE]
  unfold pubD shE at hPD
  unfold pubE shE at hPE
  generalize bdD (shD (rightD n0 L0 x0) k) = RD at *
  generalize bdE (shD (rightD n0 L0 x0) k) = RE at *
  generalize shD (rightD n0 L0 x0) k = R at *
  generalize dyadE n0 L0 x0 = E at *
  clear h0 hT
  by_cases hz : E = 0
  · rw [if_pos hz] at hPD hPE
    by_cases g1 : k < -20000
    · rw [if_neg (by omega)] at hPD
      rw [if_neg (by omega), if_neg (by omega)] at hPE
      clear NO WR
      subst hz hPD hPE
      go_enter Tryd.func46, Tryd.ntmps46
      obtain ⟨⟨j0, j1, -, -, -⟩, j2, -⟩ := id zA0
      go_upto_region 2 with (go_at_call 18; (with_reducible refine (CK.out _ (H0.out.below yb0)).mono ?_); rintro en w1 ⟨rfl, hb1⟩)
      have zR3 := zR0.below hb1
      have yb3 := below_trans yb0 hb1
      obtain ⟨⟨k0, k1, f0, f1, hs2⟩, k2, f2⟩ := id zR3
      go_wp2_with fail
      refine bodyPost_ret (by simp [results, Tryd.results46, go_sem, k0, k1, k2]; try rfl) rfl ?_
      exact ⟨_, rfl, ⟨none, 0, rfl, Ns.nil⟩, ((yb3.setCell (by first | omega | (simp; done) | (simp; omega)) _).setCell (by first | omega | (simp; done) | (simp; omega)) _).setCell (by first | omega | (simp; done) | (simp; omega)) _⟩
    · by_cases g2 : 20000 < k
      · rw [if_neg (by omega)] at hPD
        rw [if_neg (by omega), if_neg (by omega)] at hPE
        clear NO WR
        subst hz hPD hPE
        go_enter Tryd.func46, Tryd.ntmps46
        obtain ⟨⟨j0, j1, -, -, -⟩, j2, -⟩ := id zA0
        go_upto_region 2 with (go_at_call 18; (with_reducible refine (CK.out _ (H0.out.below yb0)).mono ?_); rintro en w1 ⟨rfl, hb1⟩)
        have zR3 := zR0.below hb1
        have yb3 := below_trans yb0 hb1
        obtain ⟨⟨k0, k1, f0, f1, hs2⟩, k2, f2⟩ := id zR3
        go_wp2_with fail
        refine bodyPost_ret (by simp [results, Tryd.results46, go_sem, k0, k1, k2]; try rfl) rfl ?_
        exact ⟨_, rfl, ⟨none, 0, rfl, Ns.nil⟩, ((yb3.setCell (by first | omega | (simp; done) | (simp; omega)) _).setCell (by first | omega | (simp; done) | (simp; omega)) _).setCell (by first | omega | (simp; done) | (simp; omega)) _⟩
      · rw [if_pos (by omega)] at hPD
        rw [if_pos (by omega)] at hPE
        have hw1 := WR.out hz (by omega) (by omega)
        have NO2 := hid (NO.out hz (by omega) (by omega))
        clear NO WR
        subst hz hPD hPE
        go_enter Tryd.func46, Tryd.ntmps46
        obtain ⟨⟨j0, j1, -, -, -⟩, j2, -⟩ := id zA0
        go_upto_region 2 with (go_at_call 18; (with_reducible refine (CK.out _ (H0.out.below yb0)).mono ?_); rintro en w1 ⟨rfl, hb1⟩)
        clear j0 j1 j2
        have zA1 := zA0.below hb1
        have zR1 := zR0.below hb1
        have yb1 := below_trans yb0 hb1
        obtain ⟨⟨j0, j1, -, -, -⟩, j2, -⟩ := id zA1
        go_wp2_with (first
          | (go_at_call 99; (with_reducible refine (NO2.out _ (H0.out.below yb1) (HT.out.below yb1)).mono ?_); rintro en w2 ⟨v2, rfl, hv2, hb2⟩)
          | (go_at_call 98; (with_reducible refine (BO.out _ _ hv2).mono ?_); rintro en w3 ⟨v3, rfl, ⟨a3, c3, rfl, hN3⟩, hb3⟩; have zR3 := (zR1.below hb2).below hb3; have yb3 := below_trans (below_trans yb1 hb2) hb3; obtain ⟨⟨k0, k1, f0, f1, hs2⟩, k2, f2⟩ := id zR3))
        refine bodyPost_ret (by simp [results, Tryd.results46, go_sem, k0, k1, k2]; try rfl) rfl ?_
        exact ⟨_, rfl, ⟨a3, c3, rfl, hN3.set3 zR3 (by intro x h; cases h) _ _ _⟩, ((yb3.setCell (by first | omega | (simp; done) | (simp; omega)) _).setCell (by first | omega | (simp; done) | (simp; omega)) _).setCell (by first | omega | (simp; done) | (simp; omega)) _⟩
  · rw [if_neg hz, if_neg hz] at hPD
    rw [if_neg hz, if_neg hz] at hPE
    have hzb : (E == 0) = false := beq_eq_false_iff_ne.2 hz
    clear NO WR hz
    subst hPD hPE
    go_enter Tryd.func46, Tryd.ntmps46
    obtain ⟨⟨j0, j1, -, -, -⟩, j2, -⟩ := id zA0
    go_upto_region 2 with (go_at_call 18; (with_reducible refine (CK.out _ (H0.out.below yb0)).mono ?_); rintro en w1 ⟨rfl, hb1⟩)
    have zR3 := zR0.below hb1
    have yb3 := below_trans yb0 hb1
    obtain ⟨⟨k0, k1, f0, f1, hs2⟩, k2, f2⟩ := id zR3
    go_wp2_with fail
    refine bodyPost_ret (by simp [results, Tryd.results46, go_sem, k0, k1, k2]; try rfl) rfl ?_
    exact ⟨_, rfl, ⟨none, 0, rfl, Ns.nil⟩, ((yb3.setCell (by first | omega | (simp; done) | (simp; omega)) _).setCell (by first | omega | (simp; done) | (simp; omega)) _).setCell (by first | omega | (simp; done) | (simp; omega)) _⟩
end Go.Proofs.YteaakbeemhmciaaDoor
