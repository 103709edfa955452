/- The reference: what is told of a number (ToldDyad), and nothing (NoDyad). -/
import Derived.Test.YthaelmnblgollaaGreatDoorSh
import Derived.Test.YthaelmnblgollaaGreatDoorRegL
import Derived.Test.YthaelmnblgollaaGreatDoorZt
import Derived.Test.YthaelmnblgollaaGreatDoorQ5
import Derived.Test.YthaelmnblgollaaGreatDoorQm
namespace Go.Ulp
open Go.RowKit
/-- what a right Dyad is worth -/
def rightD (n : Bool) (L : List Nat) (x : Int) : Dy := (sg n (lval L : Int), x)
theorem sg_lt (n : Bool) (m : Nat) (h : m = 0 → n = false) : decide (sg n (m : Int) < 0) = n := by
  cases n
  · exact decide_eq_false (by show ¬ (m : Int) < 0; omega)
  · have : m ≠ 0 := fun e => by have := h e; cases this
    exact decide_eq_true (by show -(m : Int) < 0; omega)
theorem right_abs (n : Bool) (L : List Nat) (x : Int) : (rightD n L x).1.natAbs = lval L := by unfold rightD; rw [sg_abs, Int.natAbs_natCast]
theorem vd_right {n : Bool} {L : List Nat} {x : Int} {ao : Option Addr} {cap : Nat} {w : World} (hl : Lim L) (hE : dyadE n L x = 0) (hN : Ns .u32 w ao cap L) :
    VD w (rightD n L x) (.agg #[.bool n, .slice ao L.length cap, .int .i64 x]) := by
  obtain ⟨b1, b2, b3, hL, hz, hod⟩ := dyadE_zero hl hE
  refine ⟨ao, cap, ?_, ?_⟩
  · rw [right_abs, ← hL]
    unfold rightD
    rw [sg_lt n _ (fun h => (hz h).1)]
  · rw [right_abs, ← hL]; exact hN
theorem right_bd {n : Bool} {L : List Nat} {x : Int} (hl : Lim L) (hE : dyadE n L x = 0) : (limbs (rightD n L x).1.natAbs).length ≤ 400 ∧ -10000 ≤ (rightD n L x).2 ∧ (rightD n L x).2 ≤ 10000 := by
  obtain ⟨b1, b2, b3, hL, hz, hod⟩ := dyadE_zero hl hE
  rw [right_abs, ← hL]; exact ⟨b1, b2, b3⟩
theorem right_nrm {n : Bool} {L : List Nat} {x : Int} (hl : Lim L) (hE : dyadE n L x = 0) : nrm (sg n (lval L : Int)) x = rightD n L x := by
  obtain ⟨b1, b2, b3, hL, hz, hod⟩ := dyadE_zero hl hE
  refine nrm_of_isN (rightD n L x) ?_
  unfold IsN
  rw [right_abs]
  by_cases h0 : lval L = 0
  · left
    refine ⟨?_, (hz h0).2⟩
    unfold rightD; rw [h0]; unfold sg; split <;> rfl
  · exact .inr (hod h0)
theorem dyadE2_zero {x y : Int} (h : dyadE2 x y = 0) : x = 0 ∧ y = 0 := by unfold dyadE2 at h; split at h <;> exact ⟨by omega, by omega⟩
/-- what is told of a number: itself, or none with the error of the bounds -/
def bdE (D : Dy) : Int := if bndB D = true then 0 else 2
def bdD (D : Dy) : Dy := if bndB D = true then D else (0, 0)
def pubE (E : Int) (D : Dy) : Int := if E = 0 then bdE D else E
def pubD (E : Int) (D : Dy) : Dy := if E = 0 then bdD D else (0, 0)
/-- a Dyad and an error -/
def RetVE (w : World) (D : Dy) (er : Int) (e : Ending) (w' : World) : Prop := ∃ v, e = .returned (.tuple #[v, .int .i64 er]) ∧ VD w' D v ∧ Below w.heap.size w w'
theorem RetBd.ve {w : World} {D : Dy} {e : Ending} {w' : World} (h : RetBd w D e w') : RetVE w (bdD D) (bdE D) e w' := h
def cmpE (E : Int) (D F : Dy) : Int := if E = 0 then cmpD D F else 0
def shE (n : Bool) (L : List Nat) (x k : Int) : Int := if dyadE n L x = 0 then (if -20000 ≤ k ∧ k ≤ 20000 then 0 else 1) else dyadE n L x
/-- a Dyad and an error among the values of a region -/
def Fact.ve (D : Dy) (er : Int) : Fact := ⟨fun v w => ∃ u, v = .tuple #[u, .int .i64 er] ∧ VD w D u, fun _ _ _ h hb => by
  obtain ⟨u, h1, h2⟩ := h
  exact ⟨u, h1, h2.below hb⟩⟩
def makeE (L : List Nat) (x : Int) : Int := if limbE L = 0 then (if -10000 ≤ x ∧ x ≤ 10000 then 0 else 1) else limbE L
theorem VD.none (w : World) : VD w (0, 0) (.agg #[.bool false, .slice none 0 0, .int .i64 0]) := ⟨Option.none, 0, rfl, Ns.nil⟩
end Go.Ulp
namespace Go.Proofs.YthaelmnblgollaaGreatDoor
open Go.RowKit Go.Ulp
set_option linter.unusedVariables false
set_option linter.unusedSimpArgs false
set_option maxHeartbeats 1000000
set_option maxRecDepth 100000
end Go.Proofs.YthaelmnblgollaaGreatDoor
set_option linter.unusedVariables false
set_option linter.unusedSimpArgs false
namespace Go.Ulp
open Go.RowKit
theorem VD.none_form {w : World} {v : Value} (h : VD w (0, 0) v) : ∃ am cm, v = .agg #[.bool false, .slice am 0 cm, .int .i64 0] := by
  obtain ⟨am, cm, rfl, -⟩ := h
  exact ⟨am, cm, by rw [show limbs ((0 : Int), (0 : Int)).1.natAbs = [] from limbs_zero]; rfl⟩
/-- a Dyad handed in a slice -/
def Fact.ds (n : Bool) (s : Value) (x : Int) : Fact := ⟨fun v w => ∃ g, v = .slice (some ⟨g, 0, none⟩) 1 1 ∧ DC w g 0 n s x, fun _ _ _ h hb => by
  obtain ⟨g, h1, h2⟩ := h
  exact ⟨g, h1, h2.below hb⟩⟩
theorem DC.mk1 {w : World} {n : Bool} {v : Value} {e : Int} {t : TypeId} : DC (w.alloc (.cells #[.bool n, v, .int .i64 e] t)) w.heap.size 0 n v e := by
  refine ⟨?_, ?_, ?_⟩ <;> rw [World.cell?_alloc_at (hn := rfl)] <;> rfl
/-- a number in its one form, within the bounds, is a right Dyad -/
theorem dyadE_form (D : Dy) (hI : IsN D) (hB : bndB D = true) : dyadE (decide (D.1 < 0)) (limbs D.1.natAbs) D.2 = 0 := by
  unfold dyadE
  rw [if_neg (by unfold bndB at hB; rw [hB]; simp)]
  rcases hI with ⟨h1, h2⟩ | h
  · rw [h1, h2, if_pos (by rw [show limbs (0 : Int).natAbs = [] from limbs_zero]; rfl), if_neg (by simp)]
  · have hpos : 0 < D.1.natAbs := by omega
    have hl := (digs_len_pos 4294967296 (by omega) D.1.natAbs).2 hpos
    have hl' : 0 < (limbs D.1.natAbs).length := hl
    rw [if_neg (by omega)]
    have ht := (trim_iff (limbs D.1.natAbs)).1 (limbs_trim D.1.natAbs)
    have h0 : (limbs D.1.natAbs).getD 0 0 % 2 = D.1.natAbs % 2 := by
      have h1 := val_drop 4294967296 (limbs D.1.natAbs) 0 hl'
      rw [List.drop_zero] at h1
      have h3 := lval_limbs D.1.natAbs
      unfold lval at h3
      omega
    rw [if_neg (by
      intro hc
      rcases hc with hc | hc
      · rcases ht with h2 | h2
        · omega
        · exact h2 hc
      · omega)]
end Go.Ulp
namespace Go.Proofs.YthaelmnblgollaaGreatDoor
open Go.RowKit Go.Ulp
set_option linter.unusedVariables false
set_option linter.unusedSimpArgs false
set_option maxHeartbeats 2000000
set_option maxRecDepth 100000
/-- is it none? -/
theorem noDyad_any (v : Value) (w : World) (h : VD w (0, 0) v) : Calls Tryz.prog 15 #[v] w fun e w' => e = .returned (.bool true) ∧ Below w.heap.size w w' := by
  obtain ⟨am, cm, rfl⟩ := h.none_form
  clear h
  have zA : QL 26 (w.alloc (.cells #[.bool false, .slice am 0 cm, .int .i64 0] 26)) w.heap.size false (.slice am 0 cm) 0 := QL.made rfl
  obtain ⟨⟨j0, j1, -, -, -⟩, j2, -⟩ := id zA
  go_enter Tryz.func15, Tryz.ntmps15
  go_wp2_with fail
  refine bodyPost_ret (by simp [results, Tryz.results15, go_sem]; try rfl) rfl ?_
  exact ⟨rfl, below_alloc _ _⟩
theorem told_zero (v : Value) (x : Int) (qa : Option Addr) (qc m : Nat) (w : World) (h : VD w (0, 0) v) (hl : (zl x).length = 0) :
    Calls Tryz.prog 17 #[v, .int .i64 0, .agg #[.bool (zneg x), .slice qa (zl x).length qc, .int .i64 (m : Int)]] w fun e w' => e = .returned (.bool true) ∧ Below w.heap.size w w' := by
  obtain ⟨am, cm, rfl⟩ := h.none_form
  clear h
  have zA : QL 26 ((w.alloc (.cells #[.bool false, .slice am 0 cm, .int .i64 0] 26)).alloc (.cells #[.bool (zneg x), .slice qa (zl x).length qc, .int .i64 (m : Int)] 41)) w.heap.size false (.slice am 0 cm) 0 := (QL.made rfl).alloc _
  have zB : QL 41 ((w.alloc (.cells #[.bool false, .slice am 0 cm, .int .i64 0] 26)).alloc (.cells #[.bool (zneg x), .slice qa (zl x).length qc, .int .i64 (m : Int)] 41)) (w.heap.size + 1) (zneg x) (.slice qa (zl x).length qc) m := QL.made (by first | omega | (simp; done) | (simp; omega))
  have yb0 : Below w.heap.size w ((w.alloc (.cells #[.bool false, .slice am 0 cm, .int .i64 0] 26)).alloc (.cells #[.bool (zneg x), .slice qa (zl x).length qc, .int .i64 (m : Int)] 41)) := by (repeat' (first | (with_reducible assumption) | (with_reducible exact Below.refl _ _) | (with_reducible refine below_al ?_ _) | (with_reducible refine below_drewN ?_ _) | (with_reducible refine Below.drew ?_) | (with_reducible refine Below.alloc ?_ ?_ _) | (with_reducible refine Below.setCell ?_ ?_ _) | (refine below_trans ?_ (by assumption)) | go_size))
  rw [hl] at yb0 zA zB ⊢
  obtain ⟨⟨j0, j1, -, -, -⟩, j2, -⟩ := id zA
  obtain ⟨⟨i0, i1, -, -, -⟩, i2, -⟩ := id zB
  go_enter Tryz.func17, Tryz.ntmps17
  go_wp2_with fail
  refine bodyPost_ret (by simp [results, Tryz.results17, go_sem]; try rfl) rfl ?_
  exact ⟨rfl, yb0⟩
/-- none, where the bounds are broken -/
theorem told_large (v : Value) (x z : Int) (qa : Option Addr) (qc m n : Nat) (w : World) (h : VD w (0, 0) v) (h1 : Nz 3 w qa qc (zl x)) (hlx : (zl x).length ≤ 1000000) (hx0 : x ≠ 0) (hm : m ≤ 10000000) (hn : tw x.natAbs = n) (hz : x / pw n = z)
    (hb : bndB (z, (n : Int) - m) = false) (hnb : n ≤ 20000000) :
    Calls Tryz.prog 17 #[v, .int .i64 2, .agg #[.bool (zneg x), .slice qa (zl x).length qc, .int .i64 (m : Int)]] w fun e w' => e = .returned (.bool true) ∧ Below w.heap.size w w' := by
  obtain ⟨am, cm, rfl⟩ := h.none_form
  clear h
  have TW := hid (fun w h => ztwos_any qa qc x w h hlx hx0)
  have ZB := hid (fun a c w h => zabs_any a c z w h)
  have hxb : (((zl x).length : Int) == 0) = false := beq_eq_false_iff_ne.2 (fun h => hx0 ((zl_zero_iff x).1 (by omega)))
  rw [hn, hz] at TW
  have hw1 : IntKind.i64.wrap ((n : Int) - (m : Int)) = (n : Int) - (m : Int) := IntWalk.i64_in _ (by omega)
  have H1 := hid h1
  have zA : QL 26 ((w.alloc (.cells #[.bool false, .slice am 0 cm, .int .i64 0] 26)).alloc (.cells #[.bool (zneg x), .slice qa (zl x).length qc, .int .i64 (m : Int)] 41)) w.heap.size false (.slice am 0 cm) 0 := (QL.made rfl).alloc _
  have zB : QL 41 ((w.alloc (.cells #[.bool false, .slice am 0 cm, .int .i64 0] 26)).alloc (.cells #[.bool (zneg x), .slice qa (zl x).length qc, .int .i64 (m : Int)] 41)) (w.heap.size + 1) (zneg x) (.slice qa (zl x).length qc) m := QL.made (by first | omega | (simp; done) | (simp; omega))
  have yb0 : Below w.heap.size w ((w.alloc (.cells #[.bool false, .slice am 0 cm, .int .i64 0] 26)).alloc (.cells #[.bool (zneg x), .slice qa (zl x).length qc, .int .i64 (m : Int)] 41)) := by (repeat' (first | (with_reducible assumption) | (with_reducible exact Below.refl _ _) | (with_reducible refine below_al ?_ _) | (with_reducible refine below_drewN ?_ _) | (with_reducible refine Below.drew ?_) | (with_reducible refine Below.alloc ?_ ?_ _) | (with_reducible refine Below.setCell ?_ ?_ _) | (refine below_trans ?_ (by assumption)) | go_size))
  obtain ⟨⟨j0, j1, -, -, -⟩, j2, -⟩ := id zA
  obtain ⟨⟨i0, i1, -, -, -⟩, i2, -⟩ := id zB
  have hbb : ¬ ((limbs z.natAbs).length ≤ 400 ∧ -10000 ≤ (n : Int) - m ∧ (n : Int) - m ≤ 10000) := by
    intro hc; unfold bndB dyB at hb; exact absurd (decide_eq_true hc) (by rw [hb]; simp)
  have BT := hid (fun w => between_any ((n : Int) - m) (-10000) 10000 w)
  by_cases hE : -10000 ≤ (n : Int) - m ∧ (n : Int) - m ≤ 10000
  · rw [decide_eq_true hE] at BT
    obtain ⟨K, hK⟩ : ∃ K : Nat, K = 12800 := ⟨_, rfl⟩
    have ZP := hid (show ∀ w, Calls Tryz.prog 79 #[.int .i64 12800] w fun e w' => RetZ 3 w (pw K) e w' from fun w => by
      have := zpow_any K w (by omega)
      rwa [show (K : Int) = 12800 by omega] at this)
    have ZC := hid (show ∀ a c b d w, Nz 3 w a c (zl (z.natAbs : Int)) → Nz 3 w b d (zl (pw K)) → Calls Tryz.prog 77 #[.agg #[.bool (zneg (z.natAbs : Int)), .slice a (zl (z.natAbs : Int)).length c], .agg #[.bool (zneg (pw K)), .slice b (zl (pw K)).length d]] w fun e w' => e = .returned (.int .i64 (cmpI (z.natAbs : Int) (pw K))) ∧ Below w.heap.size w w' from fun a c b d w k0 k1 => by
      refine (zcmp_any a b c d (z.natAbs : Int) (pw K) w k0 k1).mono ?_
      rintro e w' ⟨rfl, hh⟩
      exact ⟨rfl, hh⟩)
    have hcm : 0 ≤ cmpI (z.natAbs : Int) (pw K) := by
      have h9 : ¬ (limbs z.natAbs).length ≤ 400 := fun h => hbb ⟨h, hE⟩
      rw [limbs_le_bits, show 32 * 400 = K by omega] at h9
      have h8 : pw K ≤ (z.natAbs : Int) := by rw [pw_nat]; omega
      unfold cmpI; rw [if_neg (by omega)]; split <;> omega
    generalize cmpI (z.natAbs : Int) (pw K) = cv at *
    clear h1 hn hz hb hbb hK hx0
    go_enter Tryz.func17, Tryz.ntmps17
    go_wp2_with (first
      | (go_at_call 69; (with_reducible refine (TW.out _ (H1.out.below yb0)).mono ?_); rintro e w1 ⟨az, cz, rfl, hz1, hb1⟩; have zA1 := zA.below hb1; have zB1 := zB.below hb1; obtain ⟨⟨k0, k1, -, -, -⟩, k2, -⟩ := id zA1; obtain ⟨⟨l0, l1, -, -, -⟩, l2, -⟩ := id zB1; have hlt1 := zB1.1.lt; have hlt2 : w.heap.size + 1 ≠ w1.heap.size := (by omega))
      | (go_at_call 40; (with_reducible refine (BT.out _).mono ?_); rintro e w2 ⟨rfl, rfl⟩)
      | (go_at_call 78; (refine (ZB.out _ _ _ (hz1.below (by (repeat' (first | (with_reducible assumption) | (with_reducible exact Below.refl _ _) | (with_reducible refine below_al ?_ _) | (with_reducible refine below_drewN ?_ _) | (with_reducible refine Below.drew ?_) | (with_reducible refine Below.alloc ?_ ?_ _) | (with_reducible refine Below.setCell ?_ ?_ _) | (refine below_trans ?_ (by assumption)) | go_size))))).mono ?_); rintro e w3 ⟨aa, ca, rfl, hz3, hb3⟩)
      | (go_at_call 79; (with_reducible refine (ZP.out _).mono ?_); rintro e w4 ⟨ap, cp, rfl, hz4, hb4⟩)
      | (go_at_call 77; (refine (ZC.out _ _ _ _ _ (hz3.below (by (repeat' (first | (with_reducible assumption) | (with_reducible exact Below.refl _ _) | (with_reducible refine below_al ?_ _) | (with_reducible refine below_drewN ?_ _) | (with_reducible refine Below.drew ?_) | (with_reducible refine Below.alloc ?_ ?_ _) | (with_reducible refine Below.setCell ?_ ?_ _) | (refine below_trans ?_ (by assumption)) | go_size)))) (hz4.below (by (repeat' (first | (with_reducible assumption) | (with_reducible exact Below.refl _ _) | (with_reducible refine below_al ?_ _) | (with_reducible refine below_drewN ?_ _) | (with_reducible refine Below.drew ?_) | (with_reducible refine Below.alloc ?_ ?_ _) | (with_reducible refine Below.setCell ?_ ?_ _) | (refine below_trans ?_ (by assumption)) | go_size))))).mono ?_); rintro e w5 ⟨rfl, hb5⟩))
    refine bodyPost_ret (by simp [results, Tryz.results17, go_sem]; try rfl) rfl ?_
    exact ⟨rfl, by (repeat' (first | (with_reducible assumption) | (with_reducible exact Below.refl _ _) | (with_reducible refine below_al ?_ _) | (with_reducible refine below_drewN ?_ _) | (with_reducible refine Below.drew ?_) | (with_reducible refine Below.alloc ?_ ?_ _) | (with_reducible refine Below.setCell ?_ ?_ _) | (refine below_trans ?_ (by assumption)) | go_size))⟩
  · rw [decide_eq_false hE] at BT
    clear h1 hn hz hb hbb hx0
    go_enter Tryz.func17, Tryz.ntmps17
    go_wp2_with (first
      | (go_at_call 69; (with_reducible refine (TW.out _ (H1.out.below yb0)).mono ?_); rintro e w1 ⟨az, cz, rfl, hz1, hb1⟩; have zA1 := zA.below hb1; have zB1 := zB.below hb1; obtain ⟨⟨k0, k1, -, -, -⟩, k2, -⟩ := id zA1; obtain ⟨⟨l0, l1, -, -, -⟩, l2, -⟩ := id zB1; have hlt1 := zB1.1.lt; have hlt2 : w.heap.size + 1 ≠ w1.heap.size := (by omega))
      | (go_at_call 40; (with_reducible refine (BT.out _).mono ?_); rintro e w2 ⟨rfl, rfl⟩))
    refine bodyPost_ret (by simp [results, Tryz.results17, go_sem]; try rfl) rfl ?_
    exact ⟨rfl, by (repeat' (first | (with_reducible assumption) | (with_reducible exact Below.refl _ _) | (with_reducible refine below_al ?_ _) | (with_reducible refine below_drewN ?_ _) | (with_reducible refine Below.drew ?_) | (with_reducible refine Below.alloc ?_ ?_ _) | (with_reducible refine Below.setCell ?_ ?_ _) | (refine below_trans ?_ (by assumption)) | go_size))⟩
theorem told_ok (v : Value) (D : Dy) (x : Int) (qa : Option Addr) (qc m n B : Nat) (hB : B ≤ 1000000) (w : World) (h : VD w D v) (h1 : Nz 3 w qa qc (zl x)) (hxA : x.natAbs < 2 ^ B) (hx0 : x ≠ 0) (hm : m ≤ 1000000) (hn : tw x.natAbs = n) (hz : x / pw n = D.1)
    (hD : nrm x (-(m : Int)) = D) (hnm : (n : Int) - m = D.2) (hb : bndB D = true) (hnb : n ≤ 20000000) :
    Calls Tryz.prog 17 #[v, .int .i64 0, .agg #[.bool (zneg x), .slice qa (zl x).length qc, .int .i64 (m : Int)]] w fun e w' => e = .returned (.bool true) ∧ Below w.heap.size w w' := by
  obtain ⟨am, cm, rfl, hN⟩ := h
  have hlx : (zl x).length ≤ 1000000 := Nat.le_trans (zl_len_bits x B hxA) hB
  have hI : IsN D := by rw [← hD]; exact nrm_isN _ _
  have hE := dyadE_form D hI hb
  obtain ⟨b1, b2, b3⟩ := dyB_true (show dyB (limbs D.1.natAbs).length D.2 = true from hb)
  have hD0 : D.1 ≠ 0 := by
    intro h0; apply hx0
    have h2 := congrArg Prod.fst hD
    exact (nrm_zero_iff x (-(m : Int))).1 (h2.trans h0)
  have hlb : (((limbs D.1.natAbs).length : Int) == 0) = false := beq_eq_false_iff_ne.2 (fun h => hD0 ((dy_len D).1 (by omega)))
  have TW := hid (fun w h => ztwos_any qa qc x w h hlx hx0)
  rw [hn, hz] at TW
  have ZB := hid (fun a c w h => zabs_any a c D.1 w h)
  have hxb : (((zl x).length : Int) == 0) = false := beq_eq_false_iff_ne.2 (fun h => hx0 ((zl_zero_iff x).1 (by omega)))
  have hw1 : IntKind.i64.wrap ((n : Int) - (m : Int)) = D.2 := by rw [hnm]; exact IntWalk.i64_in _ (by omega)
  have BT := hid (show ∀ w, Calls Tryz.prog 40 #[.int .i64 D.2, .int .i64 (-10000), .int .i64 10000] w fun e w' => e = .returned (.bool true) ∧ w = w' from fun w => by
    have := between_any D.2 (-10000) 10000 w
    rwa [decide_eq_true ⟨b2, b3⟩] at this)
  obtain ⟨K, hK⟩ : ∃ K : Nat, K = 12800 := ⟨_, rfl⟩
  have ZP := hid (show ∀ w, Calls Tryz.prog 79 #[.int .i64 12800] w fun e w' => RetZ 3 w (pw K) e w' from fun w => by
    have := zpow_any K w (by omega)
    rwa [show (K : Int) = 12800 by omega] at this)
  have ZC := hid (fun a c b d w h0 h1 => zcmp_any a b c d (D.1.natAbs : Int) (pw K) w h0 h1)
  have hcm : cmpI (D.1.natAbs : Int) (pw K) = -1 := by
    have h9 := b1
    rw [limbs_le_bits, show 32 * 400 = K by omega] at h9
    have h8 : (D.1.natAbs : Int) < pw K := by rw [pw_nat]; omega
    unfold cmpI; rw [if_pos h8]
  rw [hcm] at ZC
  have DR := hid (fun g w k h => dyadRight1_any g (decide (D.1 < 0)) am cm (limbs D.1.natAbs) D.2 w k h (lim_limbs _))
  rw [hE] at DR
  have QO := hid (show ∀ w, Ns .u32 w am cm (limbs D.1.natAbs) → Calls Tryz.prog 81 #[.agg #[.bool (decide (D.1 < 0)), .slice am (limbs D.1.natAbs).length cm, .int .i64 D.2]] w fun e w' => RetQD 3 w D 400000 200000 e w' from fun w h => by
    have := qof_any (decide (D.1 < 0)) D.1.natAbs am cm D.2 w h (by omega) (by omega)
    rw [sg_self] at this
    have e : nrm D.1 D.2 = D := nrm_of_isN D hI
    rwa [e] at this)
  have QC := hid (show ∀ u w, QD 3 w D 400000 200000 u → Nz 3 w qa qc (zl x) → Calls Tryz.prog 18 #[u, .agg #[.bool (zneg x), .slice qa (zl x).length qc, .int .i64 (m : Int)]] w fun e w' => e = .returned (.int .i64 0) ∧ Below w.heap.size w w' from fun u w k0 k1 => by
    have := qcmp_any u _ D D 400000 200000 B 1000000 w k0 ⟨x, m, qa, qc, rfl, k1, hD, hxA, hm⟩ (by omega) (by omega) (by omega) (by omega)
    rwa [cmpD_self] at this)
  have H1 := hid h1
  have HN := hid hN
  have hcap := hN.1
  generalize (limbs D.1.natAbs).length = nl at *
  generalize decide (D.1 < 0) = ng at *
  have zA : QL 26 ((w.alloc (.cells #[.bool ng, .slice am nl cm, .int .i64 D.2] 26)).alloc (.cells #[.bool (zneg x), .slice qa (zl x).length qc, .int .i64 (m : Int)] 41)) w.heap.size ng (.slice am nl cm) D.2 := (QL.made rfl).alloc _
  have zB : QL 41 ((w.alloc (.cells #[.bool ng, .slice am nl cm, .int .i64 D.2] 26)).alloc (.cells #[.bool (zneg x), .slice qa (zl x).length qc, .int .i64 (m : Int)] 41)) (w.heap.size + 1) (zneg x) (.slice qa (zl x).length qc) m := QL.made (by first | omega | (simp; done) | (simp; omega))
  have yb0 : Below w.heap.size w ((w.alloc (.cells #[.bool ng, .slice am nl cm, .int .i64 D.2] 26)).alloc (.cells #[.bool (zneg x), .slice qa (zl x).length qc, .int .i64 (m : Int)] 41)) := by (repeat' (first | (with_reducible assumption) | (with_reducible exact Below.refl _ _) | (with_reducible refine below_al ?_ _) | (with_reducible refine below_drewN ?_ _) | (with_reducible refine Below.drew ?_) | (with_reducible refine Below.alloc ?_ ?_ _) | (with_reducible refine Below.setCell ?_ ?_ _) | (refine below_trans ?_ (by assumption)) | go_size))
  clear h1 hN hn hz hnm hE hI hb hK hx0 hcm hD0 hxA
  go_enter Tryz.func17, Tryz.ntmps17
  go_upto_region 1 with fail
  have hN2 := HN.out.below yb0
  have h12 := H1.out.below yb0
  obtain ⟨W2, hW2⟩ : ∃ W, W = ((w.alloc (.cells #[.bool ng, .slice am nl cm, .int .i64 D.2] 26)).alloc (.cells #[.bool (zneg x), .slice qa (zl x).length qc, .int .i64 (m : Int)] 41)) := ⟨_, rfl⟩
  rw [← hW2] at zA zB yb0 hN2 h12 ⊢
  clear hW2
  obtain ⟨⟨j0, j1, -, -, -⟩, j2, -⟩ := id zA
  obtain ⟨⟨i0, i1, -, -, -⟩, i2, -⟩ := id zB
  go_upto_region 8 with (first
    | (go_at_call 69; (with_reducible refine (TW.out _ h12).mono ?_); rintro e w1 ⟨az, cz, rfl, hz1, hb1⟩; have zA1 := zA.below hb1; have zB1 := zB.below hb1; obtain ⟨⟨k0, k1, -, -, -⟩, k2, -⟩ := id zA1; obtain ⟨⟨l0, l1, -, -, -⟩, l2, -⟩ := id zB1; have hlt1 := zB1.1.lt; have hlt2 : w.heap.size + 1 ≠ w1.heap.size := (by omega))
    | (go_at_call 40; (with_reducible refine (BT.out _).mono ?_); rintro e w2 ⟨rfl, rfl⟩)
    | (go_at_call 78; (refine (ZB.out _ _ _ (hz1.below (by (repeat' (first | (with_reducible assumption) | (with_reducible exact Below.refl _ _) | (with_reducible refine below_al ?_ _) | (with_reducible refine below_drewN ?_ _) | (with_reducible refine Below.drew ?_) | (with_reducible refine Below.alloc ?_ ?_ _) | (with_reducible refine Below.setCell ?_ ?_ _) | (refine below_trans ?_ (by assumption)) | go_size))))).mono ?_); rintro e w3 ⟨aa, ca, rfl, hz3, hb3⟩)
    | (go_at_call 79; (with_reducible refine (ZP.out _).mono ?_); rintro e w4 ⟨ap, cp, rfl, hz4, hb4⟩)
    | (go_at_call 77; (refine (ZC.out _ _ _ _ _ (hz3.below (by (repeat' (first | (with_reducible assumption) | (with_reducible exact Below.refl _ _) | (with_reducible refine below_al ?_ _) | (with_reducible refine below_drewN ?_ _) | (with_reducible refine Below.drew ?_) | (with_reducible refine Below.alloc ?_ ?_ _) | (with_reducible refine Below.setCell ?_ ?_ _) | (refine below_trans ?_ (by assumption)) | go_size)))) (hz4.below (by (repeat' (first | (with_reducible assumption) | (with_reducible exact Below.refl _ _) | (with_reducible refine below_al ?_ _) | (with_reducible refine below_drewN ?_ _) | (with_reducible refine Below.drew ?_) | (with_reducible refine Below.alloc ?_ ?_ _) | (with_reducible refine Below.setCell ?_ ?_ _) | (refine below_trans ?_ (by assumption)) | go_size))))).mono ?_); rintro e w5 ⟨rfl, hb5⟩; have yb5 : Below W2.heap.size W2 w5 := (by (repeat' (first | (with_reducible assumption) | (with_reducible exact Below.refl _ _) | (with_reducible refine below_al ?_ _) | (with_reducible refine below_drewN ?_ _) | (with_reducible refine Below.drew ?_) | (with_reducible refine Below.alloc ?_ ?_ _) | (with_reducible refine Below.setCell ?_ ?_ _) | (refine below_trans ?_ (by assumption)) | go_size)))))
  have zA5 := zA.below yb5
  have zB5 := zB.below yb5
  have hN5 := hN2.below yb5
  have h15 := h12.below yb5
  have ybw := below_trans yb0 yb5
  clear hb1 hb3 hb4 hb5 zA1 zB1 k0 k1 k2 l0 l1 l2 j0 j1 j2 i0 i1 i2 hz1 hz3 hz4 hlt1 hlt2 hw1
  refine wp_region_grow 16 [60, 61, 62, 63, 64, 65, 66, 67, 68, 69, 70, 71, 72, 73, 74, 6] [Fact.is (.int .i64 0), Fact.is (.bool true), Fact.is (.bool true), Fact.is (.agg #[.bool ng, .slice am nl cm, .int .i64 D.2]), Fact.ds ng (.slice am nl cm) D.2, Fact.is (.int .i64 0), Fact.is (.bool true), Fact.is (.bool true), Fact.is (.bool true), Fact.is (.agg #[.bool ng, .slice am nl cm, .int .i64 D.2]), Fact.q 3 D 400000 200000, Fact.is (.agg #[.bool (zneg x), .slice qa (zl x).length qc, .int .i64 (m : Int)]), Fact.is (.int .i64 0), Fact.is (.bool true), Fact.is (.bool true), Fact.is (.bool true)] (by kernel_rfl) (by kernel_rfl) ⟨?o0, ?o1, ?o2, ?o3, ?o4, ?o5, ?o6, ?o7, ?o8, ?o9, ?o10, ?o11, ?o12, ?o13, ?o14, ?o15, trivial⟩ ?after
  case o0 => (refine StepOK.plain rfl ?_; intro ρ w1 R hρ hb hp hR; have e1 : ρ (.tmp 1) = .int .i64 0 := hρ.tmp 1 rfl; have hcon := hρ.con; have hfn := hρ.fn; clear hρ hp; unfold OpRun; go_simp; exact hR _ _ (Below.refl _ _) rfl)
  case o1 => (refine StepOK.plain rfl ?_; intro ρ w1 R hρ hb hp hR; have e60 : ρ (.tmp 60) = _ := hp 0 60 rfl rfl; have hcon := hρ.con; have hfn := hρ.fn; clear hρ hp; unfold OpRun; go_simp; exact hR _ _ (Below.refl _ _) rfl)
  case o2 => (refine StepOK.plain rfl ?_; intro ρ w1 R hρ hb hp hR; have e61 : ρ (.tmp 61) = _ := hp 1 61 rfl rfl; have hcon := hρ.con; have hfn := hρ.fn; clear hρ hp; unfold OpRun; go_simp; exact hR _ _ (Below.refl _ _) rfl)
  case o3 => (intro ρ w1 R hρ hb hp hR; have eg : ρ (.tmp 62) = .bool true := hp 2 62 rfl rfl; refine ⟨fun _ => ?_, fun hg => absurd hg (by simp [guardOf, eg])⟩; clear eg; have e3 : ρ (.tmp 3) = .pointer (some ⟨w.heap.size, 0, none⟩) := hρ.tmp 3 rfl; obtain ⟨⟨j0, j1, -, -, -⟩, j2, -⟩ := zA5.below hb; have hcon := hρ.con; have hfn := hρ.fn; clear hρ hp; unfold OpRun; go_simp; exact hR _ _ (Below.refl _ _) rfl)
  case o4 => (intro ρ w1 R hρ hb hp hR; have eg : ρ (.tmp 62) = .bool true := hp 2 62 rfl rfl; refine ⟨fun _ => ?_, fun hg => absurd hg (by simp [guardOf, eg])⟩; clear eg; have e63 : ρ (.tmp 63) = _ := hp 3 63 rfl rfl; have hcon := hρ.con; have hfn := hρ.fn; clear hρ hp; unfold OpRun; go_simp; exact hR _ _ (below_alloc _ _) ⟨_, rfl, DC.mk1⟩)
  case o5 => (intro ρ w1 R hρ hb hp hR; have eg : ρ (.tmp 62) = .bool true := hp 2 62 rfl rfl; refine ⟨fun _ => ?_, fun hg => absurd hg (by simp [guardOf, eg])⟩; clear eg; have f64 := hp 4 64 rfl rfl; obtain ⟨g64, e64, hd64⟩ := f64; have hcon := hρ.con; have hfn := hρ.fn; clear hρ hp; unfold OpRun; go_simp; (refine (DR.out _ _ hd64 (hN5.below hb)).mono ?_; rintro e wn ⟨rfl, hbn⟩; exact ⟨_, rfl, hR _ _ hbn rfl⟩))
  case o6 => (intro ρ w1 R hρ hb hp hR; have eg : ρ (.tmp 62) = .bool true := hp 2 62 rfl rfl; refine ⟨fun _ => ?_, fun hg => absurd hg (by simp [guardOf, eg])⟩; clear eg; have e65 : ρ (.tmp 65) = _ := hp 5 65 rfl rfl; have hcon := hρ.con; have hfn := hρ.fn; clear hρ hp; unfold OpRun; go_simp; exact hR _ _ (Below.refl _ _) rfl)
  case o7 => (refine StepOK.plain rfl ?_; intro ρ w1 R hρ hb hp hR; have e62 : ρ (.tmp 62) = _ := hp 2 62 rfl rfl; have e66 : ρ (.tmp 66) = _ := hp 6 66 rfl rfl; have hcon := hρ.con; have hfn := hρ.fn; clear hρ hp; unfold OpRun; go_simp; exact hR _ _ (Below.refl _ _) rfl)
  case o8 => (refine StepOK.plain rfl ?_; intro ρ w1 R hρ hb hp hR; have e67 : ρ (.tmp 67) = _ := hp 7 67 rfl rfl; have hcon := hρ.con; have hfn := hρ.fn; clear hρ hp; unfold OpRun; go_simp; exact hR _ _ (Below.refl _ _) rfl)
  case o9 => (intro ρ w1 R hρ hb hp hR; have eg : ρ (.tmp 68) = .bool true := hp 8 68 rfl rfl; refine ⟨fun _ => ?_, fun hg => absurd hg (by simp [guardOf, eg])⟩; clear eg; have e3 : ρ (.tmp 3) = .pointer (some ⟨w.heap.size, 0, none⟩) := hρ.tmp 3 rfl; obtain ⟨⟨j0, j1, -, -, -⟩, j2, -⟩ := zA5.below hb; have hcon := hρ.con; have hfn := hρ.fn; clear hρ hp; unfold OpRun; go_simp; exact hR _ _ (Below.refl _ _) rfl)
  case o10 => (intro ρ w1 R hρ hb hp hR; have eg : ρ (.tmp 68) = .bool true := hp 8 68 rfl rfl; refine ⟨fun _ => ?_, fun hg => absurd hg (by simp [guardOf, eg])⟩; clear eg; have e69 : ρ (.tmp 69) = _ := hp 9 69 rfl rfl; have hcon := hρ.con; have hfn := hρ.fn; clear hρ hp; unfold OpRun; go_simp; (refine (QO.out _ (hN5.below hb)).mono ?_; rintro e wn ⟨v9, rfl, hv9, hbn⟩; exact ⟨_, rfl, hR _ _ hbn hv9⟩))
  case o11 => (intro ρ w1 R hρ hb hp hR; have eg : ρ (.tmp 68) = .bool true := hp 8 68 rfl rfl; refine ⟨fun _ => ?_, fun hg => absurd hg (by simp [guardOf, eg])⟩; clear eg; have e5 : ρ (.tmp 5) = .pointer (some ⟨w.heap.size + 1, 0, none⟩) := hρ.tmp 5 rfl; obtain ⟨⟨i0, i1, -, -, -⟩, i2, -⟩ := zB5.below hb; have hcon := hρ.con; have hfn := hρ.fn; clear hρ hp; unfold OpRun; go_simp; exact hR _ _ (Below.refl _ _) rfl)
  case o12 => (intro ρ w1 R hρ hb hp hR; have eg : ρ (.tmp 68) = .bool true := hp 8 68 rfl rfl; refine ⟨fun _ => ?_, fun hg => absurd hg (by simp [guardOf, eg])⟩; clear eg; have f70 := hp 10 70 rfl rfl; have e71 : ρ (.tmp 71) = _ := hp 11 71 rfl rfl; have hcon := hρ.con; have hfn := hρ.fn; clear hρ hp; unfold OpRun; go_simp; (refine (QC.out _ _ f70 (h15.below hb)).mono ?_; rintro e wn ⟨rfl, hbn⟩; exact ⟨_, rfl, hR _ _ hbn rfl⟩))
  case o13 => (intro ρ w1 R hρ hb hp hR; have eg : ρ (.tmp 68) = .bool true := hp 8 68 rfl rfl; refine ⟨fun _ => ?_, fun hg => absurd hg (by simp [guardOf, eg])⟩; clear eg; have e72 : ρ (.tmp 72) = _ := hp 12 72 rfl rfl; have hcon := hρ.con; have hfn := hρ.fn; clear hρ hp; unfold OpRun; go_simp; exact hR _ _ (Below.refl _ _) rfl)
  case o14 => (refine StepOK.plain rfl ?_; intro ρ w1 R hρ hb hp hR; have e68 : ρ (.tmp 68) = _ := hp 8 68 rfl rfl; have e73 : ρ (.tmp 73) = _ := hp 13 73 rfl rfl; have hcon := hρ.con; have hfn := hρ.fn; clear hρ hp; unfold OpRun; go_simp; exact hR _ _ (Below.refl _ _) rfl)
  case o15 => (refine StepOK.plain rfl ?_; intro ρ w1 R hρ hb hp hR; have e74 : ρ (.tmp 74) = _ := hp 14 74 rfl rfl; have hcon := hρ.con; have hfn := hρ.fn; clear hρ hp; unfold OpRun; go_simp; exact hR _ _ (Below.refl _ _) rfl)
  case after =>
    intro u wn hb hf
    have e6 : u 6 = _ := hf 15 6 (by omega) rfl
    clear hf
    simp only [putAll, Act.put, List.setIfInBounds_toArray, List.set_cons_zero, List.set_cons_succ, List.drop_succ_cons, List.drop_zero, List.drop_nil]
    rw [e6]
    go_wp2_with fail
    refine bodyPost_ret (by simp [results, Tryz.results17, go_sem]; try rfl) rfl ?_
    exact ⟨rfl, below_trans ybw hb⟩
/-- just what is told of a number -/
theorem told_any (v u : Value) (D : Dy) (A T : Nat) (w : World) (hv : VD w (bdD D) v) (hu : QD 3 w D A T u) (hA : A ≤ 1000000) (hT : T ≤ 1000000) :
    Calls Tryz.prog 17 #[v, .int .i64 (bdE D), u] w fun e w' => e = .returned (.bool true) ∧ Below w.heap.size w w' := by
  obtain ⟨x, m, qa, qc, rfl, h1, hD, hxA, hm⟩ := hu
  by_cases hx0 : x = 0
  · subst hx0
    have e : D = (0, 0) := by rw [← hD]; rfl
    subst e
    exact told_zero v 0 qa qc m w hv rfl
  · have hlx : (zl x).length ≤ 1000000 := Nat.le_trans (zl_len_bits x A hxA) hA
    have hD1 : D.1 = x / pw (tw x.natAbs) := by rw [← hD]; unfold nrm; rw [if_neg hx0]
    have hD2 : D.2 = (tw x.natAbs : Int) - m := by rw [← hD]; unfold nrm; rw [if_neg hx0]; show -(m : Int) + _ = _; omega
    have hnb : tw x.natAbs ≤ 20000000 := by
      have := (tw_bound (x := x) (z := x / pw (tw x.natAbs)) (n := tw x.natAbs) (div_pw_tw x).symm (by intro h0; have := div_pw_tw x; rw [h0, Int.zero_mul] at this; exact hx0 this.symm) hlx).1
      omega
    cases hb : bndB D
    · have e1 : bdE D = 2 := by unfold bdE; rw [hb]; rfl
      have e2 : bdD D = (0, 0) := by unfold bdD; rw [hb]; rfl
      rw [e1]
      rw [e2] at hv
      refine told_large v x _ qa qc m _ w hv h1 hlx hx0 (by omega) rfl rfl ?_ hnb
      rw [← hD1, ← hD2]; exact hb
    · have e1 : bdE D = 0 := by unfold bdE; rw [hb]; rfl
      have e2 : bdD D = D := by unfold bdD; rw [hb]; rfl
      rw [e1]
      rw [e2] at hv
      exact told_ok v D x qa qc m _ A hA w hv h1 hxA hx0 (by omega) rfl hD1.symm hD hD2.symm hb hnb
end Go.Proofs.YthaelmnblgollaaGreatDoor
