/- The reference's numbers over a power of two. -/
import Derived.Test.YthaelmnblgollaaGreatDoorZ6
namespace Go.Ulp
open Go.RowKit
theorem zl_len_bits (x : Int) (k : Nat) (h : x.natAbs < 2 ^ k) : (zl x).length ≤ k := by
  unfold zl
  exact (digs_len_le 10000 (by omega) _ _).2 (Nat.lt_of_lt_of_le h (Nat.pow_le_pow_left (by omega) k))
theorem zl_len_pow (n : Nat) : (zl ((2 ^ n : Nat) : Int)).length ≤ n + 1 :=
  zl_len_bits _ _ (by rw [Int.natAbs_natCast]; exact Nat.pow_lt_pow_right (by omega) (by omega))
theorem zl_len_pw (n : Nat) : (zl (pw n)).length ≤ n + 1 := zl_len_pow n
end Go.Ulp
namespace Go.Proofs.YthaelmnblgollaaGreatDoor
open Go.RowKit Go.Ulp
set_option linter.unusedVariables false
set_option linter.unusedSimpArgs false
set_option maxHeartbeats 1000000
set_option maxRecDepth 100000
theorem zpow_aux (f : Nat) : ∀ (n : Nat) (w : World), n ≤ f → n ≤ 1000000000 → Calls Tryz.prog 79 #[.int .i64 (n : Int)] w fun e w' => RetZ 3 w ((2 ^ n : Nat) : Int) e w' := by
  induction f with
  | zero =>
    intro n w hn _
    obtain rfl : n = 0 := by omega
    go_enter Tryz.func79, Tryz.ntmps79
    go_wp2_with fail
    have zR0 : ZL 39 (w.alloc (.cells #[.bool false, .slice none 0 0] 39)) w.heap.size false (.slice none 0 0) := ZL.made rfl
    refine (zN_any 1 (by omega) _).mono ?_
    rintro e w1 ⟨ao, cap, rfl, hN, hb⟩
    have zR := zR0.below hb
    have yb : Below w.heap.size w (w.alloc (.cells #[.bool false, .slice none 0 0] 39)) := below_alloc _ _
    have k0 := zR.1
    have k1 := zR.2.1
    have f0 := zR.2.2.1
    have f1 := zR.2.2.2.1
    have hs2 := zR.2.2.2.2
    go_wp2_with fail
    refine bodyPost_ret (by simp [results, Tryz.results79, go_sem, k0, k1]; try rfl) rfl ?_
    exact ⟨_, _, rfl, (hN.setCell hs2 (by decide) _ _).setCell (hs2.setCell _ _) (by decide) _ _, ((below_trans yb hb).setCell (by first | omega | (simp; done) | (simp; omega)) _).setCell (by first | omega | (simp; done) | (simp; omega)) _⟩
  | succ f ih =>
    intro n w hn hs
    by_cases h0 : n = 0
    · subst h0; exact ih 0 w (by omega) (by omega)
    have IH := hid ih
    clear ih
    have hz : ((n : Int) == 0) = false := by simp; omega
    by_cases h60 : n < 60
    · have hp : 2 ^ n ≤ 2 ^ 59 := Nat.pow_le_pow_right (by omega) (by omega)
      have h59 : (2 : Nat) ^ 59 = 576460752303423488 := by decide
      have hc : ((2 ^ n : Nat) : Int) = (2 : Int) ^ n := by simp
      have hw1 : (2 : Int) ^ n ≤ 576460752303423488 := by rw [← hc]; omega
      have hw0 : 0 ≤ (2 : Int) ^ n := by rw [← hc]; exact Int.natCast_nonneg _
      have HC := hid hc
      have HP := hid hp
      clear hc hp h59
      go_enter Tryz.func79, Tryz.ntmps79
      go_wp2_with fail
      rw [← HC.out]
      have zR0 : ZL 39 (w.alloc (.cells #[.bool false, .slice none 0 0] 39)) w.heap.size false (.slice none 0 0) := ZL.made rfl
      refine (zN_any (2 ^ n) (by have := HP.out; have h59 : (2 : Nat) ^ 59 = 576460752303423488 := by decide
                                 omega) _).mono ?_
      rintro e w1 ⟨ao, cap, rfl, hN, hb⟩
      have zR := zR0.below hb
      have yb : Below w.heap.size w (w.alloc (.cells #[.bool false, .slice none 0 0] 39)) := below_alloc _ _
      have k0 := zR.1
      have k1 := zR.2.1
      have f0 := zR.2.2.1
      have f1 := zR.2.2.2.1
      have hs2 := zR.2.2.2.2
      go_wp2_with fail
      refine bodyPost_ret (by simp [results, Tryz.results79, go_sem, k0, k1]; try rfl) rfl ?_
      exact ⟨_, _, rfl, (hN.setCell hs2 (by decide) _ _).setCell (hs2.setCell _ _) (by decide) _ _, ((below_trans yb hb).setCell (by first | omega | (simp; done) | (simp; omega)) _).setCell (by first | omega | (simp; done) | (simp; omega)) _⟩
    · have h1 : ¬ (n : Int) < 60 := by omega
      obtain ⟨q, hq⟩ : ∃ q, q = n / 2 := ⟨_, rfl⟩
      obtain ⟨r, hr⟩ : ∃ r, r = n - q := ⟨_, rfl⟩
      have e1 : (n : Int) / 2 = (q : Int) := by omega
      have e2 : (n : Int) - (q : Int) = (r : Int) := by omega
      have hq1 : q ≤ f := by omega
      have hr1 : r ≤ f := by omega
      have hq2 : q ≤ 1000000000 := by omega
      have hr2 : r ≤ 1000000000 := by omega
      have HS := hid (show ((2 ^ q : Nat) : Int) * ((2 ^ r : Nat) : Int) = ((2 ^ n : Nat) : Int) by
        rw [← Int.natCast_mul, ← Nat.pow_add]; congr 2; omega)
      clear hq hr
      go_enter Tryz.func79, Tryz.ntmps79
      go_wp2_with fail
      have zR0 : ZL 39 (w.alloc (.cells #[.bool false, .slice none 0 0] 39)) w.heap.size false (.slice none 0 0) := ZL.made rfl
      have yb0 : Below w.heap.size w (w.alloc (.cells #[.bool false, .slice none 0 0] 39)) := below_alloc _ _
      refine (IH.out q _ hq1 hq2).mono ?_
      rintro e w1 ⟨ao, cap, rfl, hN, hb⟩
      go_wp2_with fail
      refine (IH.out r _ hr1 hr2).mono ?_
      rintro e w2 ⟨ao2, cap2, rfl, hN2, hb2⟩
      go_wp2_with fail
      refine (zmul_any _ _ _ _ _ _ _ (hN.below hb2) hN2 (Nat.le_trans (zl_len_pow q) (by omega)) (Nat.le_trans (zl_len_pow r) (by omega))).mono ?_
      rw [HS.out]
      rintro e w3 ⟨ao3, cap3, rfl, hN3, hb3⟩
      have zR := ((zR0.below hb).below hb2).below hb3
      have yb := below_trans (below_trans yb0 hb) hb2
      have k0 := zR.1
      have k1 := zR.2.1
      have f0 := zR.2.2.1
      have f1 := zR.2.2.2.1
      have hs2 := zR.2.2.2.2
      go_wp2_with fail
      refine bodyPost_ret (by simp [results, Tryz.results79, go_sem, k0, k1]; try rfl) rfl ?_
      exact ⟨_, _, rfl, (hN3.setCell hs2 (by decide) _ _).setCell (hs2.setCell _ _) (by decide) _ _, ((below_trans yb hb3).setCell (by first | omega | (simp; done) | (simp; omega)) _).setCell (by first | omega | (simp; done) | (simp; omega)) _⟩
theorem zpow_any (n : Nat) (w : World) (hn : n ≤ 1000000000) : Calls Tryz.prog 79 #[.int .i64 (n : Int)] w fun e w' => RetZ 3 w (pw n) e w' := zpow_aux n n w (Nat.le_refl _) hn
end Go.Proofs.YthaelmnblgollaaGreatDoor
namespace Go.Ulp
open Go.RowKit
theorem Ns.drop {k : IntKind} {w : World} {b off cap : Nat} {L : List Nat} (h : Ns k w (some ⟨b, off, none⟩) cap L) (n : Nat) (hn : n ≤ L.length) : Ns k w (some ⟨b, off + n, none⟩) (cap - n) (L.drop n) := by
  obtain ⟨h1, h2, h3⟩ := h
  refine ⟨by rw [List.length_drop]; omega, by omega, fun hp => ?_⟩
  rw [List.length_drop] at hp
  obtain ⟨b', off', e, hc⟩ := h3 (by omega)
  obtain ⟨rfl, rfl⟩ : b = b' ∧ off = off' := by simpa using e
  refine ⟨b, off + n, rfl, fun i hi => ?_⟩
  rw [List.length_drop] at hi
  have := hc (n + i) (by omega)
  rw [Nat.add_assoc, this]
  unfold lb
  rw [getD_in L (n + i) (by omega), getD_in (L.drop n) i (by rw [List.length_drop]; omega), List.getElem_drop]
theorem Lim.take {L : List Nat} (h : Lim L) (k : Nat) : Lim (L.take k) := AllLt.take h k
theorem Lim.drop {L : List Nat} (h : Lim L) (k : Nat) : Lim (L.drop k) := AllLt.drop h k
theorem zl_len_lval (L : List Nat) (h : Lim L) : (zl (lval L : Int)).length ≤ 32 * L.length := by
  refine zl_len_bits _ _ ?_
  rw [Int.natAbs_natCast, Nat.pow_mul]; exact lval_lt L h
theorem lval_cut (L : List Nat) (h : Nat) (hh : h ≤ L.length) : (lval (L.take h) : Int) + (lval (L.drop h) : Int) * pw (32 * h) = (lval L : Int) := by
  rw [pw_nat, ← Int.natCast_mul, ← Int.natCast_add]
  congr 1
  rw [show lval L = lval (L.take h) + 4294967296 ^ h * lval (L.drop h) from val_take_drop _ L h hh, Nat.pow_mul, Nat.mul_comm (lval (L.drop h))]
end Go.Ulp
namespace Go.Proofs.YthaelmnblgollaaGreatDoor
open Go.RowKit Go.Ulp
set_option linter.unusedVariables false
set_option linter.unusedSimpArgs false
set_option maxHeartbeats 1000000
set_option maxRecDepth 100000
theorem zlimbs_aux (f : Nat) : ∀ (L : List Nat) (n : Nat) (ao : Option Addr) (cap : Nat) (w : World), n = L.length → n ≤ f → n ≤ 1000000 → Lim L → Ns .u32 w ao cap L → Calls Tryz.prog 170 #[.slice ao n cap] w fun e w' => RetZ 3 w (lval L : Int) e w' := by
  induction f with
  | zero =>
    intro L n ao cap w hn hf _ hl hN0
    obtain rfl : n = 0 := by omega
    obtain rfl : L = [] := List.length_eq_zero_iff.1 hn.symm
    clear hn hl hN0 hf
    go_enter Tryz.func170, Tryz.ntmps170
    go_wp2_with fail
    refine bodyPost_ret (by simp [results, Tryz.results170, go_sem]; try rfl) rfl ?_
    exact ⟨none, 0, rfl, Nz.nil' _ _ (by unfold maxLen; omega), by (repeat' (first | (with_reducible exact Below.refl _ _) | (with_reducible assumption) | (with_reducible refine below_drewN ?_ _) | (with_reducible refine Below.drew ?_) | (with_reducible refine Below.alloc ?_ ?_ _) | (with_reducible refine Below.setCell ?_ ?_ _) | go_size))⟩
  | succ f ih =>
    intro L n ao cap w hn hf hsm hl hN0
    by_cases h0 : n = 0
    · exact ih L n ao cap w hn (by omega) hsm hl hN0
    have IH := hid ih
    clear ih
    have hb0 := hN0
    obtain ⟨hN1, hN2, hN3⟩ := hN0
    obtain ⟨b, off, rfl, hc⟩ := hN3 (by omega)
    have HN := hid hn
    have hcap : n ≤ cap := by omega
    clear hN3
    unfold maxLen at hN2
    by_cases h1 : n = 1
    · obtain ⟨x, hx⟩ : ∃ x, x = L.getD 0 0 := ⟨_, rfl⟩
      have hx1 : x < 4294967296 := by rw [hx]; exact AllLt.getD (by omega) hl 0
      have hcell : w.cell? ⟨b, off, none⟩ = some (.int .u32 (x : Int)) := by
        have := hc 0 (by rw [← HN.out]; omega)
        rw [Nat.add_zero] at this; rw [this, hx]; rfl
      have hbs : b < w.heap.size := World.block_lt_of_cell? w _ hcell
      have HV := hid (show x = lval L by
        have h2 : L.length = 1 := by rw [← HN.out]; exact h1
        match L, h2 with
        | [d], _ => rw [hx]; simp [lval, val])
      subst h1
      clear hx hc hn
      go_enter Tryz.func170, Tryz.ntmps170
      go_wp2_with fail
      have zR0 : ZL 39 (w.alloc (.cells #[.bool false, .slice none 0 0] 39)) w.heap.size false (.slice none 0 0) := ZL.made rfl
      have yb0 : Below w.heap.size w (w.alloc (.cells #[.bool false, .slice none 0 0] 39)) := below_alloc _ _
      refine (zN_any x (by omega) _).mono ?_
      rw [HV.out]
      rintro e w1 ⟨ao1, cap1, rfl, hN, hb⟩
      have zR := zR0.below hb
      have k0 := zR.1
      have k1 := zR.2.1
      have f0 := zR.2.2.1
      have f1 := zR.2.2.2.1
      have hs2 := zR.2.2.2.2
      go_wp2_with fail
      refine bodyPost_ret (by simp [results, Tryz.results170, go_sem, k0, k1]; try rfl) rfl ?_
      exact ⟨_, _, rfl, (hN.setCell hs2 (by decide) _ _).setCell (hs2.setCell _ _) (by decide) _ _, ((below_trans yb0 hb).setCell (by first | omega | (simp; done) | (simp; omega)) _).setCell (by first | omega | (simp; done) | (simp; omega)) _⟩
    · obtain ⟨md, hh⟩ : ∃ md, md = n / 2 := ⟨_, rfl⟩
      have e1 : (n : Int) / 2 = (md : Int) := by omega
      have g1 : 1 ≤ md := by omega
      have g2 : md < n := by omega
      have g3 : n - md ≤ f := by omega
      have g4 : md ≤ f := by omega
      have hz0 : ((n : Int) == 0) = false := by simp; omega
      have hz1 : ((n : Int) == 1) = false := by simp; omega
      have tl : md = (L.take md).length := by rw [List.length_take]; omega
      have dl : n - md = (L.drop md).length := by rw [List.length_drop]; omega
      have TL := hid tl
      have DL := hid dl
      have HS := hid (lval_cut L md (by omega))
      have l1 := zl_len_lval _ (hl.take md)
      have l2 := zl_len_lval _ (hl.drop md)
      rw [← tl] at l1
      rw [← dl] at l2
      have l3 : (zl ((lval (L.drop md) : Int) * pw (32 * md))).length ≤ 4294967296 := by
        have e0 := lval_lt _ (hl.drop md)
        have e2 := lval_cut L md (by omega)
        refine Nat.le_trans (digs_len_mono _ (by omega) (show ((lval (L.drop md) : Int) * pw (32 * md)).natAbs ≤ lval L by
          rw [pw_nat, ← Int.natCast_mul] at e2 ⊢; rw [Int.natAbs_natCast]; omega)) ?_
        have := zl_len_lval L hl
        unfold zl at this; rw [Int.natAbs_natCast, ← hn] at this
        exact Nat.le_trans this (by omega)
      clear hh tl dl hc hn h0 h1
      go_enter Tryz.func170, Tryz.ntmps170
      go_wp2_with fail
      have zR0 : ZL 39 (w.alloc (.cells #[.bool false, .slice none 0 0] 39)) w.heap.size false (.slice none 0 0) := ZL.made rfl
      have yb0 : Below w.heap.size w (w.alloc (.cells #[.bool false, .slice none 0 0] 39)) := below_alloc _ _
      have zR := zR0.drew
      have yb := yb0.drew
      clear zR0 yb0
      go_region_with (first | (go_at_call 170; (first | (with_reducible refine (IH.out (L.take md) md _ _ _ TL.out g4 (by omega) (hl.take md) ((hb0.take md cap (by have := HN.out; omega) (by omega) (Nat.le_refl _)).below (by (repeat' (first | (with_reducible assumption) | (with_reducible exact Below.refl _ _) | (with_reducible refine below_al ?_ _) | (with_reducible refine below_drewN ?_ _) | (with_reducible refine Below.drew ?_) | (with_reducible refine Below.alloc ?_ ?_ _) | (with_reducible refine Below.setCell ?_ ?_ _) | (refine below_trans ?_ (by assumption)) | go_size))))).mono ?_) | (with_reducible refine (IH.out (L.drop md) (n - md) _ _ _ DL.out g3 (by omega) (hl.drop md) ((hb0.drop md (by have := HN.out; omega)).below (by (repeat' (first | (with_reducible assumption) | (with_reducible exact Below.refl _ _) | (with_reducible refine below_al ?_ _) | (with_reducible refine below_drewN ?_ _) | (with_reducible refine Below.drew ?_) | (with_reducible refine Below.alloc ?_ ?_ _) | (with_reducible refine Below.setCell ?_ ?_ _) | (refine below_trans ?_ (by assumption)) | go_size))))).mono ?_)); rintro e wn ⟨aon, capn, rfl, hNn, hbn⟩) | (go_at_call 79; refine (zpow_any (32 * md) _ (by omega)).mono ?_; rintro e wn ⟨aon, capn, rfl, hNn, hbn⟩) | (go_at_call 112; refine (zmul_any _ _ _ _ _ _ _ (by first | assumption | exact Nz.below (by assumption) (by (repeat' (first | (with_reducible assumption) | (with_reducible exact Below.refl _ _) | (with_reducible refine below_al ?_ _) | (with_reducible refine below_drewN ?_ _) | (with_reducible refine Below.drew ?_) | (with_reducible refine Below.alloc ?_ ?_ _) | (with_reducible refine Below.setCell ?_ ?_ _) | (refine below_trans ?_ (by assumption)) | go_size)))) (by first | assumption | exact Nz.below (by assumption) (by (repeat' (first | (with_reducible assumption) | (with_reducible exact Below.refl _ _) | (with_reducible refine below_al ?_ _) | (with_reducible refine below_drewN ?_ _) | (with_reducible refine Below.drew ?_) | (with_reducible refine Below.alloc ?_ ?_ _) | (with_reducible refine Below.setCell ?_ ?_ _) | (refine below_trans ?_ (by assumption)) | go_size)))) (by omega) (Nat.le_trans (zl_len_pw _) (by omega))).mono ?_; rintro e wn ⟨aon, capn, rfl, hNn, hbn⟩) | (go_at_call 125; refine (zadd_any _ _ _ _ _ _ _ (by first | assumption | exact Nz.below (by assumption) (by (repeat' (first | (with_reducible assumption) | (with_reducible exact Below.refl _ _) | (with_reducible refine below_al ?_ _) | (with_reducible refine below_drewN ?_ _) | (with_reducible refine Below.drew ?_) | (with_reducible refine Below.alloc ?_ ?_ _) | (with_reducible refine Below.setCell ?_ ?_ _) | (refine below_trans ?_ (by assumption)) | go_size)))) (by first | assumption | exact Nz.below (by assumption) (by (repeat' (first | (with_reducible assumption) | (with_reducible exact Below.refl _ _) | (with_reducible refine below_al ?_ _) | (with_reducible refine below_drewN ?_ _) | (with_reducible refine Below.drew ?_) | (with_reducible refine Below.alloc ?_ ?_ _) | (with_reducible refine Below.setCell ?_ ?_ _) | (refine below_trans ?_ (by assumption)) | go_size)))) (by omega) l3).mono ?_; rw [HS.out]; rintro e wn ⟨aon, capn, rfl, hNn, hbn⟩; have zRn := ZL.below (w' := wn) zR (by (repeat' (first | (with_reducible assumption) | (with_reducible exact Below.refl _ _) | (with_reducible refine below_al ?_ _) | (with_reducible refine below_drewN ?_ _) | (with_reducible refine Below.drew ?_) | (with_reducible refine Below.alloc ?_ ?_ _) | (with_reducible refine Below.setCell ?_ ?_ _) | (refine below_trans ?_ (by assumption)) | go_size))); have ybn : Below w.heap.size w wn := (by (repeat' (first | (with_reducible assumption) | (with_reducible exact Below.refl _ _) | (with_reducible refine below_al ?_ _) | (with_reducible refine below_drewN ?_ _) | (with_reducible refine Below.drew ?_) | (with_reducible refine Below.alloc ?_ ?_ _) | (with_reducible refine Below.setCell ?_ ?_ _) | (refine below_trans ?_ (by assumption)) | go_size))); have k0 := zRn.1; have k1 := zRn.2.1; have f0 := zRn.2.2.1; have f1 := zRn.2.2.2.1))
      all_goals
        have hs2 := zRn.2.2.2.2
        go_wp2_with fail
        refine bodyPost_ret (by simp [results, Tryz.results170, go_sem, k0, k1]; try rfl) rfl ?_
        exact ⟨_, _, rfl, (hNn.setCell hs2 (by decide) _ _).setCell (hs2.setCell _ _) (by decide) _ _, (ybn.setCell (by first | omega | (simp; done) | (simp; omega)) _).setCell (by first | omega | (simp; done) | (simp; omega)) _⟩
theorem zlimbs_any (L : List Nat) (ao : Option Addr) (cap : Nat) (w : World) (hl : Lim L) (hN : Ns .u32 w ao cap L) (hs : L.length ≤ 1000000) : Calls Tryz.prog 170 #[.slice ao L.length cap] w fun e w' => RetZ 3 w (lval L : Int) e w' :=
  zlimbs_aux L.length L L.length ao cap w rfl (Nat.le_refl _) hs hl hN
end Go.Proofs.YthaelmnblgollaaGreatDoor
namespace Go.Ulp
open Go.RowKit
/-- what a call leaves that hands back a number over a power of two -/
def RetQ (t : TypeId) (w : World) (x : Int) (n : Int) (e : Ending) (w' : World) : Prop :=
  ∃ ao cap, e = .returned (.agg #[.bool (zneg x), .slice ao (zl x).length cap, .int .i64 n]) ∧ Nz t w' ao cap (zl x) ∧ Below w.heap.size w w'
/-- block g is a variable of type Q (number t) -/
def QL (t : TypeId) (w : World) (g : Nat) (n : Bool) (v : Value) (k : Int) : Prop :=
  ZL t w g n v ∧ w.cell? ⟨g, 2, none⟩ = some (.int .i64 k) ∧ w.frozen? ⟨g, 2, none⟩ = false
theorem QL.lt {t : TypeId} {w : World} {g : Nat} {n : Bool} {v : Value} {k : Int} (h : QL t w g n v k) : g < w.heap.size := h.1.lt
theorem QL.belowB {t : TypeId} {B : Nat} {w w' : World} {g : Nat} {n : Bool} {v : Value} {k : Int} (h : QL t w g n v k) (hb : Below B w w') (hB : g < B) : QL t w' g n v k :=
  ⟨h.1.belowB hb hB, (hb.cell (p := ⟨g, 2, none⟩) hB).trans h.2.1, (hb.frozen (p := ⟨g, 2, none⟩) hB).trans h.2.2⟩
theorem QL.below {t : TypeId} {w w' : World} {g : Nat} {n : Bool} {v : Value} {k : Int} (h : QL t w g n v k) (hb : Below w.heap.size w w') : QL t w' g n v k := h.belowB hb h.lt
theorem QL.alloc {t : TypeId} {w : World} {g : Nat} {n : Bool} {v : Value} {k : Int} (h : QL t w g n v k) (o : Obj) : QL t (w.alloc o) g n v k := h.below (below_alloc _ _)
theorem QL.drew {t : TypeId} {w : World} {g : Nat} {n : Bool} {v : Value} {k : Int} (h : QL t w g n v k) : QL t w.drew g n v k := h
theorem QL.drewN {t : TypeId} {w : World} {g : Nat} {n : Bool} {v : Value} {k : Int} (h : QL t w g n v k) (j : Nat) : QL t (w.drewN j) g n v k := h
theorem QL.made {t : TypeId} {w : World} {g : Nat} {n : Bool} {v : Value} {k : Int} (hg : g = w.heap.size) : QL t (w.alloc (.cells #[.bool n, v, .int .i64 k] t)) g n v k := by
  subst hg
  refine ⟨⟨?_, ?_, ?_, ?_, ElemIs.made _ _ _⟩, ?_, ?_⟩
  · rw [World.cell?_alloc_at (hn := rfl)]; rfl
  · rw [World.cell?_alloc_at (hn := rfl)]; rfl
  · unfold World.frozen?; rw [heap_alloc_new]; simp
  · unfold World.frozen?; rw [heap_alloc_new]; simp
  · rw [World.cell?_alloc_at (hn := rfl)]; rfl
  · unfold World.frozen?; rw [heap_alloc_new]; simp
end Go.Ulp
namespace Go.Proofs.YthaelmnblgollaaGreatDoor
open Go.RowKit Go.Ulp
set_option linter.unusedVariables false
set_option linter.unusedSimpArgs false
set_option maxHeartbeats 1000000
set_option maxRecDepth 100000
theorem qmake_neg (a0 : Option Addr) (c0 : Nat) (x : Int) (n : Int) (w : World) (h0 : Nz 3 w a0 c0 (zl x)) (hn : n < 0) (hn2 : -10000000 ≤ n) :
    Calls Tryz.prog 50 #[.agg #[.bool (zneg x), .slice a0 (zl x).length c0], .int .i64 n] w fun e w' => RetQ 3 w x (-n) e w' := by
  go_enter Tryz.func50, Tryz.ntmps50
  go_wp2_with fail
  refine bodyPost_ret (by simp [results, Tryz.results50, go_sem]; try rfl) rfl ?_
  exact ⟨a0, c0, rfl, h0.below (by (repeat' (first | (with_reducible exact Below.refl _ _) | (with_reducible assumption) | (with_reducible refine below_drewN ?_ _) | (with_reducible refine Below.drew ?_) | (with_reducible refine Below.alloc ?_ ?_ _) | (with_reducible refine Below.setCell ?_ ?_ _) | go_size))), by (repeat' (first | (with_reducible exact Below.refl _ _) | (with_reducible assumption) | (with_reducible refine below_drewN ?_ _) | (with_reducible refine Below.drew ?_) | (with_reducible refine Below.alloc ?_ ?_ _) | (with_reducible refine Below.setCell ?_ ?_ _) | go_size))⟩
theorem qmake_pos (a0 : Option Addr) (c0 : Nat) (x : Int) (n : Nat) (w : World) (h0 : Nz 3 w a0 c0 (zl x)) (hl0 : (zl x).length ≤ 1073741824) (hn2 : n ≤ 100000000) :
    Calls Tryz.prog 50 #[.agg #[.bool (zneg x), .slice a0 (zl x).length c0], .int .i64 (n : Int)] w fun e w' => RetQ 3 w (x * pw n) 0 e w' := by
  have hz := hid h0
  go_enter Tryz.func50, Tryz.ntmps50
  go_wp2_with fail
  have zR0 : QL 41 ((w.alloc (.cells #[.bool (zneg x), .slice a0 (zl x).length c0] 39)).alloc (.cells #[.bool false, .slice none 0 0, .int .i64 0] 41)) (w.heap.size + 1) false (.slice none 0 0) 0 := QL.made (by first | omega | (simp; done) | (simp; omega))
  have zA0 : ZL 39 ((w.alloc (.cells #[.bool (zneg x), .slice a0 (zl x).length c0] 39)).alloc (.cells #[.bool false, .slice none 0 0, .int .i64 0] 41)) w.heap.size (zneg x) (.slice a0 (zl x).length c0) := (ZL.made rfl).alloc _
  have zA := zA0.drew
  have yb0 : Below w.heap.size w ((w.alloc (.cells #[.bool (zneg x), .slice a0 (zl x).length c0] 39)).alloc (.cells #[.bool false, .slice none 0 0, .int .i64 0] 41)) := by (repeat' (first | (with_reducible exact Below.refl _ _) | (with_reducible assumption) | (with_reducible refine below_drewN ?_ _) | (with_reducible refine Below.drew ?_) | (with_reducible refine Below.alloc ?_ ?_ _) | (with_reducible refine Below.setCell ?_ ?_ _) | go_size))
  have zR := zR0.drew
  have yb := yb0.drew
  clear zR0 yb0 zA0
  go_region_with (first | (go_at_call 79; refine (zpow_any n _ (by omega)).mono ?_; rintro e wn ⟨aon, capn, rfl, hNn, hbn⟩; have h0n := Nz.below (w' := wn) h0 (by (repeat' (first | (with_reducible assumption) | (with_reducible exact Below.refl _ _) | (with_reducible refine below_al ?_ _) | (with_reducible refine below_drewN ?_ _) | (with_reducible refine Below.drew ?_) | (with_reducible refine Below.alloc ?_ ?_ _) | (with_reducible refine Below.setCell ?_ ?_ _) | (refine below_trans ?_ (by assumption)) | go_size))); have zAn := ZL.below (w' := wn) zA (by (repeat' (first | (with_reducible assumption) | (with_reducible exact Below.refl _ _) | (with_reducible refine below_al ?_ _) | (with_reducible refine below_drewN ?_ _) | (with_reducible refine Below.drew ?_) | (with_reducible refine Below.alloc ?_ ?_ _) | (with_reducible refine Below.setCell ?_ ?_ _) | (refine below_trans ?_ (by assumption)) | go_size))); have kA0 := zAn.1; have kA1 := zAn.2.1) | (go_at_call 112; refine (zmul_any _ _ _ _ _ _ _ (by assumption) (by assumption) hl0 (Nat.le_trans (zl_len_pw _) (by omega))).mono ?_; rintro e wn ⟨aon, capn, rfl, hNn, hbn⟩; have zRn := QL.below (w' := wn) zR (by (repeat' (first | (with_reducible assumption) | (with_reducible exact Below.refl _ _) | (with_reducible refine below_al ?_ _) | (with_reducible refine below_drewN ?_ _) | (with_reducible refine Below.drew ?_) | (with_reducible refine Below.alloc ?_ ?_ _) | (with_reducible refine Below.setCell ?_ ?_ _) | (refine below_trans ?_ (by assumption)) | go_size))); have ybn : Below w.heap.size w wn := (by (repeat' (first | (with_reducible assumption) | (with_reducible exact Below.refl _ _) | (with_reducible refine below_al ?_ _) | (with_reducible refine below_drewN ?_ _) | (with_reducible refine Below.drew ?_) | (with_reducible refine Below.alloc ?_ ?_ _) | (with_reducible refine Below.setCell ?_ ?_ _) | (refine below_trans ?_ (by assumption)) | go_size))); have k0 := zRn.1.1; have k1 := zRn.1.2.1; have f0 := zRn.1.2.2.1; have f1 := zRn.1.2.2.2.1; have k2 := zRn.2.1; have f2 := zRn.2.2))
  all_goals
    have hs2 := zRn.1.2.2.2.2
    go_wp2_with fail
    refine bodyPost_ret (by simp [results, Tryz.results50, go_sem, k0, k1, k2]; try rfl) rfl ?_
    exact ⟨_, _, rfl, ((hNn.setCell hs2 (by decide) _ _).setCell (hs2.setCell _ _) (by decide) _ _).setCell ((hs2.setCell _ _).setCell _ _) (by decide) _ _, ((ybn.setCell (by first | omega | (simp; done) | (simp; omega)) _).setCell (by first | omega | (simp; done) | (simp; omega)) _).setCell (by first | omega | (simp; done) | (simp; omega)) _⟩
end Go.Proofs.YthaelmnblgollaaGreatDoor
