/- DyadMakes: the law's walk. -/
import Derived.Test.YteaakbeemhmciaaDoorTd
import Derived.Test.YteaakbeemhmciaaDoorDn2
import Derived.Test.YteaakbeemhmciaaDoorDs
namespace Go.Ulp
open Go.RowKit
theorem lb_ext {L M : List Nat} (hl : L.length = M.length) (h : ∀ j, j < L.length → lb L j = lb M j) : L = M := by
  refine List.ext_getElem hl (fun j h1 h2 => ?_)
  have := h j h1
  unfold lb at this
  rw [List.getD_eq_getElem?_getD, List.getElem?_eq_getElem h1, List.getD_eq_getElem?_getD, List.getElem?_eq_getElem h2] at this
  exact Int.ofNat_inj.1 (by simpa using this)
end Go.Ulp
namespace Go.Proofs.YteaakbeemhmciaaDoor
open Go.RowKit Go.Ulp
set_option linter.unusedVariables false
set_option linter.unusedSimpArgs false
set_option maxHeartbeats 1000000
set_option maxRecDepth 100000
theorem sliceEq_any (a0 a1 : Option Addr) (c0 c1 : Nat) (L M : List Nat) (w : World) (h0 : Ns .u32 w a0 c0 L) (h1 : Ns .u32 w a1 c1 M) :
    Calls Tryd.prog 21 #[.slice a0 L.length c0, .slice a1 M.length c1] w fun e w' => e = .returned (.bool (decide (L = M))) ∧ Below w.heap.size w w' := by
  obtain ⟨h01, h02, h03⟩ := h0
  obtain ⟨h11, h12, h13⟩ := h1
  unfold maxLen at h02 h12
  by_cases hl : L.length = M.length
  · have hlb : ((L.length : Int) != (M.length : Int)) = false := by rw [bne_eq_false_iff_eq]; omega
    have hl1 : L.length ≤ M.length := by omega
    have hl2 : M.length ≤ L.length := by omega
    have HL := hid hl
    have HR := hid (fun (b : Bool) (h : b = decide (L = M)) => h)
    have HX := hid (fun h => lb_ext hl h)
    have HN := hid (fun (j : Nat) (h : lb L j ≠ lb M j) => (fun e => h (by rw [e]) : ¬ L = M))
    clear hl
    go_enter Tryd.func21, Tryd.ntmps21
    go_wp2_with fail
    go_loopw [13] (fun i wr => ∃ i0 : Nat, i = .int .i64 (i0 : Int) ∧ i0 ≤ L.length ∧ (∀ j, j < i0 → lb L j = lb M j) ∧ Below w.heap.size w wr) (fun i _ => (L.length - (intOf i).toNat))
    case atStart => exact ⟨0, rfl, by omega, fun j hj => by omega, Below.refl _ _⟩
    case round =>
      obtain ⟨j, rfl, hi1, hdr, hb⟩ := hrel
      by_cases hi : (j : Int) < (L.length : Int)
      · obtain ⟨b0, o0, rfl, hc0⟩ := h03 (by omega)
        obtain ⟨b1, o1, rfl, hc1⟩ := h13 (by omega)
        have k0 := (hb.cell (p := ⟨b0, o0 + j, none⟩) (World.block_lt_of_cell? _ _ (hc0 j (by omega)))).trans (hc0 j (by omega))
        have k1 := (hb.cell (p := ⟨b1, o1 + j, none⟩) (World.block_lt_of_cell? _ _ (hc1 j (by omega)))).trans (hc1 j (by omega))
        clear hc0 hc1 h03 h13
        have HD := hid hdr
        clear hdr
        have hj1 : (j : Int) < (M.length : Int) := by omega
        by_cases he : lb L j = lb M j
        · have heb : (lb L j != lb M j) = false := by simpa using he
          have HE := hid he
          clear he
          go_wp2_with fail
          go_quiet (fail)
          go_wp2_with fail
          go_roundw
          case rel => exact ⟨j + 1, by go_num, by omega, fun i hi => by
            by_cases e : i = j
            · rw [e]; exact HE.out
            · exact HD.out i (by omega), by (repeat' (first | (with_reducible assumption) | (with_reducible exact Below.refl _ _) | (with_reducible refine below_al ?_ _) | (with_reducible refine below_drewN ?_ _) | (with_reducible refine Below.drew ?_) | (with_reducible refine Below.alloc ?_ ?_ _) | (with_reducible refine Below.setCell ?_ ?_ _) | (refine below_trans ?_ (by assumption)) | go_size))⟩
          case measure => simp [intOf]; omega
        · have heb : (lb L j != lb M j) = true := by simpa using he
          have HF := hid (HN.out j he)
          clear he
          go_wp2_with fail
          go_quiet (fail)
          go_wp2_with fail
          go_ret
          exact ⟨ret_bool (by rw [decide_eq_false HF.out]), by (repeat' (first | (with_reducible assumption) | (with_reducible exact Below.refl _ _) | (with_reducible refine below_al ?_ _) | (with_reducible refine below_drewN ?_ _) | (with_reducible refine Below.drew ?_) | (with_reducible refine Below.alloc ?_ ?_ _) | (with_reducible refine Below.setCell ?_ ?_ _) | (refine below_trans ?_ (by assumption)) | go_size))⟩
      · have HD := hid (fun k (hk : k < L.length) => hdr k (by omega))
        clear hdr
        go_wp2_with fail
        go_ret
        exact ⟨ret_bool (by rw [decide_eq_true (HX.out HD.out)]), by (repeat' (first | (with_reducible assumption) | (with_reducible exact Below.refl _ _) | (with_reducible refine below_al ?_ _) | (with_reducible refine below_drewN ?_ _) | (with_reducible refine Below.drew ?_) | (with_reducible refine Below.alloc ?_ ?_ _) | (with_reducible refine Below.setCell ?_ ?_ _) | (refine below_trans ?_ (by assumption)) | go_size))⟩
  · have hlb : ((L.length : Int) != (M.length : Int)) = true := by rw [bne_iff_ne]; omega
    have HF := hid (show ¬ L = M from fun e => hl (by rw [e]))
    clear hl
    go_enter Tryd.func21, Tryd.ntmps21
    go_wp2_with fail
    go_ret
    exact ⟨ret_bool (by rw [decide_eq_false HF.out]), Below.refl _ _⟩
end Go.Proofs.YteaakbeemhmciaaDoor
set_option linter.unusedVariables false
set_option linter.unusedSimpArgs false
namespace Go.Ulp
open Go.RowKit
def ofE (x : Int) : Int := if hasVal x = true then 0 else 4
def ofD (x : Int) : Dy := if hasVal x = true then fv x else (0, 0)
def mkD (n : Bool) (L : List Nat) (x : Int) : Dy := nrm (sg n (lval L : Int)) x
def sameB (n0 : Bool) (L0 : List Nat) (x0 : Int) (n1 : Bool) (L1 : List Nat) (x1 : Int) : Bool := decide (n0 = n1 ∧ x0 = x1 ∧ L0 = L1)
end Go.Ulp
namespace Go.Proofs.YteaakbeemhmciaaDoor
open Go.RowKit Go.Ulp
set_option linter.unusedVariables false
set_option linter.unusedSimpArgs false
set_option maxHeartbeats 1000000
set_option maxRecDepth 100000
theorem pubOf_any (x : Int) (h0 : 0 ≤ x) (h1 : x < 18446744073709551616) (w : World) (hT : Tab 0 w) :
    Calls Tryd.prog 16 #[.int .u64 x] w (RetVE w (ofD x) (ofE x)) := by
  have HV := hid (fun w => hasValue_any x h0 h1 w)
  have VA := hid (fun w t => value_any x h0 h1 w t)
  have HT := hid hT
  have yb0 := below_alloc w (.cells #[.bool false, .slice none 0 0, .int .i64 0] 25)
  have zR0 : QL 25 (w.alloc (.cells #[.bool false, .slice none 0 0, .int .i64 0] 25)) w.heap.size false (.slice none 0 0) 0 := QL.made rfl
  cases hh : hasVal x
  · have e1 : ofE x = 4 := by unfold ofE; rw [hh]; rfl
    have e2 : ofD x = (0, 0) := by unfold ofD; rw [hh]; rfl
    rw [e1, e2]
    rw [hh] at HV
    obtain ⟨⟨k0, k1, f0, f1, hs2⟩, k2, f2⟩ := id zR0
    clear hh e1 e2 hT
    go_enter Tryd.func16, Tryd.ntmps16
    go_wp2_with (go_at_call 95; (with_reducible refine (HV.out _).mono ?_); rintro en w1 ⟨rfl, rfl⟩)
    refine bodyPost_ret (by simp [results, Tryd.results16, go_sem, k0, k1, k2]; try rfl) rfl ?_
    exact ⟨_, rfl, ⟨none, 0, rfl, Ns.nil⟩, by (repeat' (first | (with_reducible assumption) | (with_reducible exact Below.refl _ _) | (with_reducible refine below_al ?_ _) | (with_reducible refine below_drewN ?_ _) | (with_reducible refine Below.drew ?_) | (with_reducible refine Below.alloc ?_ ?_ _) | (with_reducible refine Below.setCell ?_ ?_ _) | (refine below_trans ?_ (by assumption)) | go_size))⟩
  · have e1 : ofE x = 0 := by unfold ofE; rw [hh]; rfl
    have e2 : ofD x = fv x := by unfold ofD; rw [hh]; rfl
    rw [e1, e2]
    rw [hh] at HV
    generalize fv x = R at *
    clear hh e1 e2 hT
    go_enter Tryd.func16, Tryd.ntmps16
    go_wp2_with (first
      | (go_at_call 95; (with_reducible refine (HV.out _).mono ?_); rintro en w1 ⟨rfl, rfl⟩)
      | (go_at_call 96; (with_reducible refine (VA.out _ (HT.out.below yb0)).mono ?_); rintro en w3 ⟨v3, rfl, ⟨a3, c3, rfl, hN3⟩, hb3⟩; have zR3 := zR0.below hb3; have yb3 := below_trans yb0 hb3; obtain ⟨⟨k0, k1, f0, f1, hs2⟩, k2, f2⟩ := id zR3))
    refine bodyPost_ret (by simp [results, Tryd.results16, go_sem, k0, k1, k2]; try rfl) rfl ?_
    exact ⟨_, rfl, ⟨a3, c3, rfl, hN3.set3 zR3 (by intro x h; cases h) _ _ _⟩, ((yb3.setCell (by first | omega | (simp; done) | (simp; omega)) _).setCell (by first | omega | (simp; done) | (simp; omega)) _).setCell (by first | omega | (simp; done) | (simp; omega)) _⟩
theorem pubMake_any (n0 : Bool) (a0 : Option Addr) (c0 : Nat) (L0 : List Nat) (x0 : Int) (w : World) (h0 : Ns .u32 w a0 c0 L0) (hl0 : Lim L0) (hT : Tab 0 w) :
    Calls Tryd.prog 17 #[.bool n0, .slice a0 L0.length c0, .int .i64 x0] w (RetVE w (pubD (makeE L0 x0) (mkD n0 L0 x0)) (pubE (makeE L0 x0) (mkD n0 L0 x0))) := by
  have CK := hid (fun w h => natCheck_any a0 c0 L0 w h)
  have H0 := hid h0
  have HT := hid hT
  have yb0 := below_alloc w (.cells #[.bool false, .slice none 0 0, .int .i64 0] 25)
  have zR0 : QL 25 (w.alloc (.cells #[.bool false, .slice none 0 0, .int .i64 0] 25)) w.heap.size false (.slice none 0 0) 0 := QL.made rfl
  have NO := hid (show limbE L0 = 0 → -10000 ≤ x0 → x0 ≤ 10000 → ∀ w, Ns .u32 w a0 c0 L0 → Tab 0 w → Calls Tryd.prog 99 #[.bool n0, .slice a0 L0.length c0, .int .i64 x0] w (RetVD w (mkD n0 L0 x0)) from fun h g1 g2 w k0 t => by
    obtain ⟨b1, ht⟩ := limbE_zero h
    have hL := (limbs_self hl0 ht).symm
    have hlen : L0.length = (limbs (lval L0)).length := congrArg List.length hL
    rw [hL] at k0
    rw [hlen]
    exact normD_any n0 a0 c0 (lval L0) x0 w k0 (by omega) (by omega) t)
  have BO := hid (show ∀ v w, VD w (mkD n0 L0 x0) v → Calls Tryd.prog 98 #[v] w (RetVE w (bdD (mkD n0 L0 x0)) (bdE (mkD n0 L0 x0))) from fun v w h => bounded_any v _ w h)
  obtain ⟨PD, hPD⟩ : ∃ z, z = pubD (makeE L0 x0) (mkD n0 L0 x0) := ⟨_, rfl⟩
  obtain ⟨PE, hPE⟩ : ∃ z, z = pubE (makeE L0 x0) (mkD n0 L0 x0) := ⟨_, rfl⟩
  rw [← hPD, ← hPE]
  unfold pubD makeE at hPD
  unfold pubE makeE at hPE
  generalize bdD (mkD n0 L0 x0) = RD at *
  generalize bdE (mkD n0 L0 x0) = RE at *
  generalize mkD n0 L0 x0 = R at *
  generalize limbE L0 = E at *
  clear h0 hT
  by_cases hz : E = 0
  · rw [if_pos hz] at hPD hPE
    by_cases g1 : x0 < -10000
    · rw [if_neg (by omega)] at hPD
      rw [if_neg (by omega), if_neg (by omega)] at hPE
      clear NO
      subst hz hPD hPE
      obtain ⟨⟨k0, k1, f0, f1, hs2⟩, k2, f2⟩ := id zR0
      go_enter Tryd.func17, Tryd.ntmps17
      go_wp2_with (go_at_call 97; (with_reducible refine (CK.out _ (H0.out.below yb0)).mono ?_); rintro en w1 ⟨rfl, rfl⟩)
      refine bodyPost_ret (by simp [results, Tryd.results17, go_sem, k0, k1, k2]; try rfl) rfl ?_
      exact ⟨_, rfl, ⟨none, 0, rfl, Ns.nil⟩, by (repeat' (first | (with_reducible assumption) | (with_reducible exact Below.refl _ _) | (with_reducible refine below_al ?_ _) | (with_reducible refine below_drewN ?_ _) | (with_reducible refine Below.drew ?_) | (with_reducible refine Below.alloc ?_ ?_ _) | (with_reducible refine Below.setCell ?_ ?_ _) | (refine below_trans ?_ (by assumption)) | go_size))⟩
    · by_cases g2 : 10000 < x0
      · rw [if_neg (by omega)] at hPD
        rw [if_neg (by omega), if_neg (by omega)] at hPE
        clear NO
        subst hz hPD hPE
        obtain ⟨⟨k0, k1, f0, f1, hs2⟩, k2, f2⟩ := id zR0
        go_enter Tryd.func17, Tryd.ntmps17
        go_wp2_with (go_at_call 97; (with_reducible refine (CK.out _ (H0.out.below yb0)).mono ?_); rintro en w1 ⟨rfl, rfl⟩)
        refine bodyPost_ret (by simp [results, Tryd.results17, go_sem, k0, k1, k2]; try rfl) rfl ?_
        exact ⟨_, rfl, ⟨none, 0, rfl, Ns.nil⟩, by (repeat' (first | (with_reducible assumption) | (with_reducible exact Below.refl _ _) | (with_reducible refine below_al ?_ _) | (with_reducible refine below_drewN ?_ _) | (with_reducible refine Below.drew ?_) | (with_reducible refine Below.alloc ?_ ?_ _) | (with_reducible refine Below.setCell ?_ ?_ _) | (refine below_trans ?_ (by assumption)) | go_size))⟩
      · rw [if_pos (by omega)] at hPD
        rw [if_pos (by omega)] at hPE
        have NO2 := hid (NO.out hz (by omega) (by omega))
        clear NO
        subst hz hPD hPE
        go_enter Tryd.func17, Tryd.ntmps17
        go_wp2_with (first
          | (go_at_call 97; (with_reducible refine (CK.out _ (H0.out.below yb0)).mono ?_); rintro en w1 ⟨rfl, rfl⟩)
          | (go_at_call 99; (with_reducible refine (NO2.out _ (H0.out.below yb0) (HT.out.below yb0)).mono ?_); rintro en w2 ⟨v2, rfl, hv2, hb2⟩)
          | (go_at_call 98; (with_reducible refine (BO.out _ _ hv2).mono ?_); rintro en w3 ⟨v3, rfl, ⟨a3, c3, rfl, hN3⟩, hb3⟩; have zR3 := (zR0.below hb2).below hb3; have yb3 := below_trans (below_trans yb0 hb2) hb3; obtain ⟨⟨k0, k1, f0, f1, hs2⟩, k2, f2⟩ := id zR3))
        refine bodyPost_ret (by simp [results, Tryd.results17, go_sem, k0, k1, k2]; try rfl) rfl ?_
        exact ⟨_, rfl, ⟨a3, c3, rfl, hN3.set3 zR3 (by intro x h; cases h) _ _ _⟩, ((yb3.setCell (by first | omega | (simp; done) | (simp; omega)) _).setCell (by first | omega | (simp; done) | (simp; omega)) _).setCell (by first | omega | (simp; done) | (simp; omega)) _⟩
  · rw [if_neg hz, if_neg hz] at hPD
    rw [if_neg hz, if_neg hz] at hPE
    have hzb : (E == 0) = false := beq_eq_false_iff_ne.2 hz
    clear NO hz
    subst hPD hPE
    obtain ⟨⟨k0, k1, f0, f1, hs2⟩, k2, f2⟩ := id zR0
    go_enter Tryd.func17, Tryd.ntmps17
    go_wp2_with (go_at_call 97; (with_reducible refine (CK.out _ (H0.out.below yb0)).mono ?_); rintro en w1 ⟨rfl, rfl⟩)
    refine bodyPost_ret (by simp [results, Tryd.results17, go_sem, k0, k1, k2]; try rfl) rfl ?_
    exact ⟨_, rfl, ⟨none, 0, rfl, Ns.nil⟩, by (repeat' (first | (with_reducible assumption) | (with_reducible exact Below.refl _ _) | (with_reducible refine below_al ?_ _) | (with_reducible refine below_drewN ?_ _) | (with_reducible refine Below.drew ?_) | (with_reducible refine Below.alloc ?_ ?_ _) | (with_reducible refine Below.setCell ?_ ?_ _) | (refine below_trans ?_ (by assumption)) | go_size))⟩
theorem same_any (n0 : Bool) (a0 : Option Addr) (c0 : Nat) (L0 : List Nat) (x0 : Int) (n1 : Bool) (a1 : Option Addr) (c1 : Nat) (L1 : List Nat) (x1 : Int) (w : World) (h0 : Ns .u32 w a0 c0 L0) (h1 : Ns .u32 w a1 c1 L1) :
    Calls Tryd.prog 20 #[.agg #[.bool n0, .slice a0 L0.length c0, .int .i64 x0], .agg #[.bool n1, .slice a1 L1.length c1, .int .i64 x1]] w fun e w' => e = .returned (.bool (sameB n0 L0 x0 n1 L1 x1)) ∧ Below w.heap.size w w' := by
  have SE := hid (fun w h0 h1 => sliceEq_any a0 a1 c0 c1 L0 L1 w h0 h1)
  have H0 := hid h0
  have H1 := hid h1
  have zA0 : QL 25 ((w.alloc (.cells #[.bool n0, .slice a0 L0.length c0, .int .i64 x0] 25)).alloc (.cells #[.bool n1, .slice a1 L1.length c1, .int .i64 x1] 25)) w.heap.size n0 (.slice a0 L0.length c0) x0 := (QL.made rfl).alloc _
  have zB0 : QL 25 ((w.alloc (.cells #[.bool n0, .slice a0 L0.length c0, .int .i64 x0] 25)).alloc (.cells #[.bool n1, .slice a1 L1.length c1, .int .i64 x1] 25)) (w.heap.size + 1) n1 (.slice a1 L1.length c1) x1 := QL.made (by first | omega | (simp; done) | (simp; omega))
  have yb0 : Below w.heap.size w ((w.alloc (.cells #[.bool n0, .slice a0 L0.length c0, .int .i64 x0] 25)).alloc (.cells #[.bool n1, .slice a1 L1.length c1, .int .i64 x1] 25)) := by (repeat' (first | (with_reducible assumption) | (with_reducible exact Below.refl _ _) | (with_reducible refine below_al ?_ _) | (with_reducible refine below_drewN ?_ _) | (with_reducible refine Below.drew ?_) | (with_reducible refine Below.alloc ?_ ?_ _) | (with_reducible refine Below.setCell ?_ ?_ _) | (refine below_trans ?_ (by assumption)) | go_size))
  obtain ⟨⟨j0, j1, -, -, -⟩, j2, -⟩ := id zA0
  obtain ⟨⟨i0, i1, -, -, -⟩, i2, -⟩ := id zB0
  clear h0 h1
  by_cases hn : n0 = n1
  · by_cases hx : x0 = x1
    · have e : sameB n0 L0 x0 n1 L1 x1 = decide (L0 = L1) := by unfold sameB; simp only [hn, hx, true_and]
      rw [e]
      generalize decide (L0 = L1) = b at *
      have hnb : (n0 == n1) = true := beq_iff_eq.2 hn
      have hxb : (x0 == x1) = true := beq_iff_eq.2 hx
      clear hn hx e
      go_enter Tryd.func20, Tryd.ntmps20
      go_wp2_with (go_at_call 21; (with_reducible refine (SE.out _ (H0.out.below yb0) (H1.out.below yb0)).mono ?_); rintro en w1 ⟨rfl, hb1⟩)
      refine bodyPost_ret (by simp [results, Tryd.results20, go_sem]; try rfl) rfl ?_
      exact ⟨rfl, below_trans yb0 hb1⟩
    · have e : sameB n0 L0 x0 n1 L1 x1 = false := by unfold sameB; exact decide_eq_false (fun h => hx h.2.1)
      rw [e]
      have hnb : (n0 == n1) = true := beq_iff_eq.2 hn
      have hxb : (x0 == x1) = false := beq_eq_false_iff_ne.2 hx
      clear hn hx e SE
      go_enter Tryd.func20, Tryd.ntmps20
      go_wp2_with fail
      refine bodyPost_ret (by simp [results, Tryd.results20, go_sem]; try rfl) rfl ?_
      exact ⟨rfl, yb0⟩
  · have e : sameB n0 L0 x0 n1 L1 x1 = false := by unfold sameB; exact decide_eq_false (fun h => hn h.1)
    rw [e]
    have hnb : (n0 == n1) = false := beq_eq_false_iff_ne.2 hn
    clear hn e SE
    go_enter Tryd.func20, Tryd.ntmps20
    go_wp2_with fail
    refine bodyPost_ret (by simp [results, Tryd.results20, go_sem]; try rfl) rfl ?_
    exact ⟨rfl, yb0⟩
end Go.Proofs.YteaakbeemhmciaaDoor
set_option linter.unusedVariables false
set_option linter.unusedSimpArgs false
namespace Go.Ulp
open Go.RowKit
theorem hasVal_class (x : Int) (h0 : 0 ≤ x) (h1 : x < 18446744073709551616) : hasVal x = !decide (4 ≤ classOf x) := by
  have h := class_val x h0 h1
  unfold hasVal
  unfold absOf at h
  rw [Bool.eq_iff_iff, Bool.not_eq_true', decide_eq_true_eq, decide_eq_false_iff_not]
  omega
theorem tw_lt {n A : Nat} (h0 : 0 < n) (h : n < 2 ^ A) : tw n < A := by
  have h1 := (od_tw n h0).1
  have h2 := od_pos n h0
  have h3 : 2 ^ tw n ≤ n := by
    conv => rhs; rw [← h1]
    exact Nat.le_mul_of_pos_left _ h2
  exact (Nat.pow_lt_pow_iff_right (a := 2) (by omega)).1 (Nat.lt_of_le_of_lt h3 h)
/-- the bounds of a number in its one form -/
theorem nrm_bd (y e : Int) (A : Nat) (h : y.natAbs < 2 ^ A) : (nrm y e).1.natAbs < 2 ^ A ∧ ((nrm y e).1 = 0 ∧ (nrm y e).2 = 0 ∨ e ≤ (nrm y e).2 ∧ (nrm y e).2 < e + A) := by
  by_cases h0 : y = 0
  · subst h0; exact ⟨h, .inl ⟨rfl, rfl⟩⟩
  · refine ⟨by rw [nrm_abs y e h0]; exact Nat.lt_of_le_of_lt (od_le _) h, .inr ?_⟩
    have h1 := tw_lt (n := y.natAbs) (by omega) h
    have h2 : (nrm y e).2 = e + tw y.natAbs := by unfold nrm; rw [if_neg h0]
    rw [h2]; omega
theorem fv_bd (x : Int) (h0 : 0 ≤ x) (h1 : x < 18446744073709551616) : bndB (fv x) = true ∧ ((fv x).1.natAbs < 2 ^ 53 ∧ -1074 ≤ (fv x).2 ∧ (fv x).2 ≤ 1024) := by
  have hm := mantOf_bd x
  have he := dexp_bd x
  have hA : (sg (negB x) (mantOf x)).natAbs < 2 ^ 53 := by rw [sg_abs]; omega
  obtain ⟨k1, k2⟩ := nrm_bd (sg (negB x) (mantOf x)) (dexp x) 53 hA
  have k3 : (fv x).1.natAbs < 2 ^ 53 ∧ -1074 ≤ (fv x).2 ∧ (fv x).2 ≤ 1024 := ⟨k1, by unfold fv; omega, by unfold fv; omega⟩
  refine ⟨?_, k3⟩
  have hl : (limbs (fv x).1.natAbs).length ≤ 2 := (limbs_le_bits _ 2).2 (Nat.lt_of_lt_of_le k3.1 (Nat.pow_le_pow_right (by omega) (by omega)))
  unfold bndB dyB
  exact decide_eq_true ⟨by omega, by omega, by omega⟩
/-- a slice of one list of limbs -/
theorem ls_made {w : World} {v : Value} {t : TypeId} : (w.alloc (.cells #[v] t)).cell? ⟨w.heap.size, 0, none⟩ = some v := by
  rw [World.cell?_alloc_at (hn := rfl)]; rfl
end Go.Ulp
namespace Go.Proofs.YteaakbeemhmciaaDoor
open Go.RowKit Go.Ulp
set_option linter.unusedVariables false
set_option linter.unusedSimpArgs false
set_option maxHeartbeats 4000000
set_option maxRecDepth 100000
theorem dyadMakes_walk (x : Int) (n0 : Bool) (L0 : List Nat) (a0 : Option Addr) (c0 : Nat) (x0 : Int) (n1 : Bool) (L1 : List Nat) (a1 : Option Addr) (c1 : Nat) (x1 : Int) (ng : Bool) (M : List Nat) (am : Option Addr) (cm : Nat) (k : Int) (w : World)
    (hx : 0 ≤ x ∧ x < 18446744073709551616) (h0 : Ns .u32 w a0 c0 L0) (hl0 : Lim L0) (wx0 : -9223372036854775808 ≤ x0 ∧ x0 ≤ 9223372036854775807) (h1 : Ns .u32 w a1 c1 L1) (hl1 : Lim L1) (wx1 : -9223372036854775808 ≤ x1 ∧ x1 ≤ 9223372036854775807)
    (hm : Ns .u32 w am cm M) (hlm : Lim M) (wk : -9223372036854775808 ≤ k ∧ k ≤ 9223372036854775807) (hT : Tab 0 w) :
    Calls Tryd.prog 3 #[.int .u64 x, .agg #[.bool n0, .slice a0 L0.length c0, .int .i64 x0], .agg #[.bool n1, .slice a1 L1.length c1, .int .i64 x1], .bool ng, .slice am M.length cm, .int .i64 k] w fun e w' => e = .returned (.bool true) ∧ Below w.heap.size w w' := by
  have OF := hid (fun w t => pubOf_any x hx.1 hx.2 w t)
  have MK := hid (fun w h t => pubMake_any ng am cm M k w h hlm t)
  have CK := hid (fun w h => dyadCheck_any n1 a1 c1 L1 x1 w h hl1)
  have R1 := hid (fun g w k h => dyadRight1_any g n1 a1 c1 L1 x1 w k h hl1)
  have SM := hid (fun w h0 h1 => same_any n0 a0 c0 L0 x0 n1 a1 c1 L1 x1 w h0 h1)
  have SE := hid (fun w h0 h1 => sliceEq_any a0 a1 c0 c1 L0 L1 w h0 h1)
  have CL := hid (fun w => classOf_any x hx.1 hx.2 w)
  have BT := hid (fun w => between_any k (-10000) 10000 w)
  have LR := hid (fun g w k h => limbsRight1_any g am cm M w k h)
  have QV := hid (fun w => qval_any x hx.1 hx.2 w)
  have HHV := hid (hasVal_class x hx.1 hx.2)
  have HOF := hid (show (hasVal x = true → ofD x = fv x ∧ ofE x = 0) ∧ (hasVal x = false → ofD x = (0, 0) ∧ ofE x = 4) from ⟨fun h => by unfold ofD ofE; rw [if_pos h, if_pos h]; exact ⟨rfl, rfl⟩, fun h => by unfold ofD ofE; rw [h]; exact ⟨rfl, rfl⟩⟩)
  have HPS := hid (show (makeE M k = 0 → pubD (makeE M k) (mkD ng M k) = bdD (mkD ng M k) ∧ pubE (makeE M k) (mkD ng M k) = bdE (mkD ng M k)) ∧ (makeE M k ≠ 0 → pubD (makeE M k) (mkD ng M k) = (0, 0) ∧ pubE (makeE M k) (mkD ng M k) = makeE M k) from ⟨fun h => by unfold pubD pubE; rw [if_pos h, if_pos h]; exact ⟨rfl, rfl⟩, fun h => by unfold pubD pubE; rw [if_neg h, if_neg h]; exact ⟨rfl, rfl⟩⟩)
  have HME := hid (show makeE M k = if limbE M = 0 then (if decide (-10000 ≤ k ∧ k ≤ 10000) = true then 0 else 1) else limbE M by unfold makeE; simp only [decide_eq_true_eq])
  have HLZ := hid (show limbE M = 0 → M.length ≤ 400 ∧ ∃ A, A ≤ 12800 ∧ lval M < 2 ^ A from fun h => by
    obtain ⟨b1, ht⟩ := limbE_zero h
    refine ⟨b1, 32 * 400, by omega, (limbs_le_bits (lval M) 400).1 ?_⟩
    rw [limbs_self hlm ht]; exact b1)
  have ZL1 := hid (fun w h hs => zlimbs_any M am cm w hlm h hs)
  have H0 := hid h0
  have H1 := hid h1
  have HM := hid hm
  have HT := hid hT
  have zA : QL 25 ((w.alloc (.cells #[.bool n0, .slice a0 L0.length c0, .int .i64 x0] 25)).alloc (.cells #[.bool n1, .slice a1 L1.length c1, .int .i64 x1] 25)) w.heap.size n0 (.slice a0 L0.length c0) x0 := (QL.made rfl).alloc _
  have zB : QL 25 ((w.alloc (.cells #[.bool n0, .slice a0 L0.length c0, .int .i64 x0] 25)).alloc (.cells #[.bool n1, .slice a1 L1.length c1, .int .i64 x1] 25)) (w.heap.size + 1) n1 (.slice a1 L1.length c1) x1 := QL.made (by first | omega | (simp; done) | (simp; omega))
  have yb : Below w.heap.size w ((w.alloc (.cells #[.bool n0, .slice a0 L0.length c0, .int .i64 x0] 25)).alloc (.cells #[.bool n1, .slice a1 L1.length c1, .int .i64 x1] 25)) := by (repeat' (first | (with_reducible assumption) | (with_reducible exact Below.refl _ _) | (with_reducible refine below_al ?_ _) | (with_reducible refine below_drewN ?_ _) | (with_reducible refine Below.drew ?_) | (with_reducible refine Below.alloc ?_ ?_ _) | (with_reducible refine Below.setCell ?_ ?_ _) | (refine below_trans ?_ (by assumption)) | go_size))
  obtain ⟨kb, hkb0⟩ : ∃ b, b = decide (-10000 ≤ k ∧ k ≤ 10000) := ⟨_, rfl⟩
  rw [← hkb0] at BT HME
  have HKB := hid hkb0.symm
  have HSB := hid (show (n0 = n1 ∧ x0 = x1 → sameB n0 L0 x0 n1 L1 x1 = decide (L0 = L1)) ∧ (¬ (n0 = n1 ∧ x0 = x1) → sameB n0 L0 x0 n1 L1 x1 = false) from ⟨fun h => by unfold sameB; simp only [h.1, h.2, true_and], fun h => by unfold sameB; exact decide_eq_false (fun g => h ⟨g.1, g.2.1⟩)⟩)
  have hlm0 := hm.1
  generalize dyadE n1 L1 x1 = F1 at *
  generalize sameB n0 L0 x0 n1 L1 x1 = SB at *
  generalize decide (L0 = L1) = EQ at *
  generalize pubD (makeE M k) (mkD ng M k) = PDM at *
  generalize pubE (makeE M k) (mkD ng M k) = PEM at *
  generalize makeE M k = ME at *
  generalize limbE M = LE at *
  generalize ofD x = PDO at *
  generalize ofE x = PEO at *
  clear h0 h1 hT hm hkb0
  go_enter Tryd.func3, Tryd.ntmps3
  go_upto_region 1 with fail
  obtain ⟨W0, hW0⟩ : ∃ W, W = ((w.alloc (.cells #[.bool n0, .slice a0 L0.length c0, .int .i64 x0] 25)).alloc (.cells #[.bool n1, .slice a1 L1.length c1, .int .i64 x1] 25)) := ⟨_, rfl⟩
  rw [← hW0] at zA zB yb ⊢
  clear hW0
  go_cut [13, 14] (fun s1 s2 wx => ∃ g, s1 = .pointer (some ⟨g, 0, none⟩) ∧ s2 = .int .i64 PEO ∧ DV 25 wx g PDO ∧ Below W0.heap.size W0 wx)
  case first =>
    go_wp2_with (go_at_call 16; (with_reducible refine (OF.out _ (HT.out.below yb)).mono ?_); rintro en w2 ⟨v2, rfl, ⟨a2, c2, rfl, hN2⟩, hb2⟩)
    go_meet
    exact ⟨_, rfl, rfl, ⟨_, _, QL.made rfl, hN2.below (below_alloc _ _)⟩, by (repeat' (first | (with_reducible assumption) | (with_reducible exact Below.refl _ _) | (with_reducible refine below_al ?_ _) | (with_reducible refine below_drewN ?_ _) | (with_reducible refine Below.drew ?_) | (with_reducible refine Below.alloc ?_ ?_ _) | (with_reducible refine Below.setCell ?_ ?_ _) | (refine below_trans ?_ (by assumption)) | go_size))⟩
  case rest =>
  obtain ⟨gO, rfl, rfl, dvO, hbx⟩ := hcut
  replace zA := zA.below hbx
  replace zB := zB.below hbx
  replace yb := below_trans yb hbx
  obtain ⟨W1, hW1⟩ : ∃ W, W = wc := ⟨_, rfl⟩
  subst hW1
  clear OF hbx
  go_upto_region 2 with fail
  go_cut [15, 16] (fun s1 s2 wx => ∃ g, s1 = .pointer (some ⟨g, 0, none⟩) ∧ s2 = .int .i64 PEM ∧ DV 25 wx g PDM ∧ Below W1.heap.size W1 wx)
  case first =>
    go_wp2_with (go_at_call 17; (with_reducible refine (MK.out _ (HM.out.below yb) (HT.out.below yb)).mono ?_); rintro en w2 ⟨v2, rfl, ⟨a2, c2, rfl, hN2⟩, hb2⟩)
    go_meet
    exact ⟨_, rfl, rfl, ⟨_, _, QL.made rfl, hN2.below (below_alloc _ _)⟩, by (repeat' (first | (with_reducible assumption) | (with_reducible exact Below.refl _ _) | (with_reducible refine below_al ?_ _) | (with_reducible refine below_drewN ?_ _) | (with_reducible refine Below.drew ?_) | (with_reducible refine Below.alloc ?_ ?_ _) | (with_reducible refine Below.setCell ?_ ?_ _) | (refine below_trans ?_ (by assumption)) | go_size))⟩
  case rest =>
  obtain ⟨gM, rfl, rfl, dvM, hbx⟩ := hcut
  replace zA := zA.below hbx
  replace zB := zB.below hbx
  replace yb := below_trans yb hbx
  replace dvO := dvO.below hbx
  obtain ⟨W2, hW2⟩ : ∃ W, W = wc := ⟨_, rfl⟩
  subst hW2
  clear MK hbx
  go_upto_region 3 with fail
  go_cut [61] (fun s1 wx => s1 = .bool false ∧ Below W2.heap.size W2 wx)
  case first =>
    clear dvO dvM QV HHV HOF HPS HME HLZ ZL1 LR BT CL HM HT
    by_cases hn : n0 = n1
    · by_cases hxx : x0 = x1
      · have e := HSB.out.1 ⟨hn, hxx⟩
        have hnb : (n0 == n1) = true := beq_iff_eq.2 hn
        have hxb : (x0 == x1) = true := beq_iff_eq.2 hxx
        rw [← e] at SE
        clear hn hxx e HSB
        refine wp_region_grow 31 [31, 32, 33, 34, 35, 36, 37, 38, 39, 40, 41, 42, 43, 44, 45, 46, 47, 48, 49, 50, 51, 52, 53, 54, 55, 56, 57, 58, 59, 60, 61] [Fact.is (.agg #[.bool n1, .slice a1 L1.length c1, .int .i64 x1]), Fact.is (.int .i64 F1), Fact.is (.agg #[.bool n1, .slice a1 L1.length c1, .int .i64 x1]), Fact.ds n1 (.slice a1 L1.length c1) x1, Fact.is (.int .i64 F1), Fact.is (.bool false), Fact.is (.bool false), Fact.is (.agg #[.bool n0, .slice a0 L0.length c0, .int .i64 x0]), Fact.is (.agg #[.bool n1, .slice a1 L1.length c1, .int .i64 x1]), Fact.is (.bool SB), Fact.is (.pointer (some ⟨w.heap.size, 0, none⟩)), Fact.is (.bool n0), Fact.is (.pointer (some ⟨w.heap.size + 1, 0, none⟩)), Fact.is (.bool n1), Fact.is (.bool true), Fact.is (.bool true), Fact.is (.pointer (some ⟨w.heap.size, 2, none⟩)), Fact.is (.int .i64 x0), Fact.is (.pointer (some ⟨w.heap.size + 1, 2, none⟩)), Fact.is (.int .i64 x1), Fact.is (.bool true), Fact.is (.bool true), Fact.is (.bool true), Fact.is (.pointer (some ⟨w.heap.size, 1, none⟩)), Fact.is (.slice a0 L0.length c0), Fact.is (.pointer (some ⟨w.heap.size + 1, 1, none⟩)), Fact.is (.slice a1 L1.length c1), Fact.is (.bool SB), Fact.is (.bool SB), Fact.is (.bool false), Fact.is (.bool false)] (by kernel_rfl) (by kernel_rfl) ⟨?o0, ?o1, ?o2, ?o3, ?o4, ?o5, ?o6, ?o7, ?o8, ?o9, ?o10, ?o11, ?o12, ?o13, ?o14, ?o15, ?o16, ?o17, ?o18, ?o19, ?o20, ?o21, ?o22, ?o23, ?o24, ?o25, ?o26, ?o27, ?o28, ?o29, ?o30, trivial⟩ ?after
        case o0 => (refine StepOK.plain rfl ?_; intro ρ w1 R hρ hb hp hR; have e8 : ρ (.tmp 8) = .pointer (some ⟨w.heap.size + 1, 0, none⟩) := hρ.tmp 8 rfl; obtain ⟨⟨j0, j1, -, -, -⟩, j2, -⟩ := zB.below hb; have hcon := hρ.con; have hfn := hρ.fn; clear hρ hp; unfold OpRun; go_simp; exact hR _ _ (Below.refl _ _) rfl)
        case o1 => (refine StepOK.plain rfl ?_; intro ρ w1 R hρ hb hp hR; have e31 : ρ (.tmp 31) = _ := hp 0 31 rfl rfl; have hcon := hρ.con; have hfn := hρ.fn; clear hρ hp; unfold OpRun; go_simp; (refine (CK.out _ (H1.out.below (below_trans yb hb))).mono ?_; rintro e wn ⟨rfl, hbn⟩; exact ⟨_, rfl, hR _ _ hbn rfl⟩))
        case o2 => (refine StepOK.plain rfl ?_; intro ρ w1 R hρ hb hp hR; have e8 : ρ (.tmp 8) = .pointer (some ⟨w.heap.size + 1, 0, none⟩) := hρ.tmp 8 rfl; obtain ⟨⟨j0, j1, -, -, -⟩, j2, -⟩ := zB.below hb; have hcon := hρ.con; have hfn := hρ.fn; clear hρ hp; unfold OpRun; go_simp; exact hR _ _ (Below.refl _ _) rfl)
        case o3 => (refine StepOK.plain rfl ?_; intro ρ w1 R hρ hb hp hR; have e33 : ρ (.tmp 33) = _ := hp 2 33 rfl rfl; have hcon := hρ.con; have hfn := hρ.fn; clear hρ hp; unfold OpRun; go_simp; exact hR _ _ (below_alloc _ _) ⟨_, rfl, DC.mk1⟩)
        case o4 => (refine StepOK.plain rfl ?_; intro ρ w1 R hρ hb hp hR; have f34 := hp 3 34 rfl rfl; obtain ⟨g34, e34, hd34⟩ := f34; have hcon := hρ.con; have hfn := hρ.fn; clear hρ hp; unfold OpRun; go_simp; (refine (R1.out _ _ hd34 (H1.out.below (below_trans yb hb))).mono ?_; rintro e wn ⟨rfl, hbn⟩; exact ⟨_, rfl, hR _ _ hbn rfl⟩))
        case o5 => (refine StepOK.plain rfl ?_; intro ρ w1 R hρ hb hp hR; have e32 : ρ (.tmp 32) = _ := hp 1 32 rfl rfl; have e35 : ρ (.tmp 35) = _ := hp 4 35 rfl rfl; have hcon := hρ.con; have hfn := hρ.fn; clear hρ hp; unfold OpRun; go_simp; exact hR _ _ (Below.refl _ _) rfl)
        case o6 => (refine StepOK.plain rfl ?_; intro ρ w1 R hρ hb hp hR; have e36 : ρ (.tmp 36) = _ := hp 5 36 rfl rfl; have hcon := hρ.con; have hfn := hρ.fn; clear hρ hp; unfold OpRun; go_simp; exact hR _ _ (Below.refl _ _) rfl)
        case o7 => (intro ρ w1 R hρ hb hp hR; have eg : ρ (.tmp 37) = .bool false := hp 6 37 rfl rfl; refine ⟨fun _ => ?_, fun hg => absurd hg (by simp [guardOf, eg])⟩; clear eg; have e7 : ρ (.tmp 7) = .pointer (some ⟨w.heap.size, 0, none⟩) := hρ.tmp 7 rfl; obtain ⟨⟨j0, j1, -, -, -⟩, j2, -⟩ := zA.below hb; have hcon := hρ.con; have hfn := hρ.fn; clear hρ hp; unfold OpRun; go_simp; exact hR _ _ (Below.refl _ _) rfl)
        case o8 => (intro ρ w1 R hρ hb hp hR; have eg : ρ (.tmp 37) = .bool false := hp 6 37 rfl rfl; refine ⟨fun _ => ?_, fun hg => absurd hg (by simp [guardOf, eg])⟩; clear eg; have e8 : ρ (.tmp 8) = .pointer (some ⟨w.heap.size + 1, 0, none⟩) := hρ.tmp 8 rfl; obtain ⟨⟨j0, j1, -, -, -⟩, j2, -⟩ := zB.below hb; have hcon := hρ.con; have hfn := hρ.fn; clear hρ hp; unfold OpRun; go_simp; exact hR _ _ (Below.refl _ _) rfl)
        case o9 => (intro ρ w1 R hρ hb hp hR; have eg : ρ (.tmp 37) = .bool false := hp 6 37 rfl rfl; refine ⟨fun _ => ?_, fun hg => absurd hg (by simp [guardOf, eg])⟩; clear eg; have e38 : ρ (.tmp 38) = _ := hp 7 38 rfl rfl; have e39 : ρ (.tmp 39) = _ := hp 8 39 rfl rfl; have hcon := hρ.con; have hfn := hρ.fn; clear hρ hp; unfold OpRun; go_simp; (refine (SM.out _ (H0.out.below (below_trans yb hb)) (H1.out.below (below_trans yb hb))).mono ?_; rintro e wn ⟨rfl, hbn⟩; exact ⟨_, rfl, hR _ _ hbn rfl⟩))
        case o10 => (intro ρ w1 R hρ hb hp hR; have eg : ρ (.tmp 37) = .bool false := hp 6 37 rfl rfl; refine ⟨fun _ => ?_, fun hg => absurd hg (by simp [guardOf, eg])⟩; clear eg; have e7 : ρ (.tmp 7) = .pointer (some ⟨w.heap.size, 0, none⟩) := hρ.tmp 7 rfl; have hcon := hρ.con; have hfn := hρ.fn; clear hρ hp; unfold OpRun; go_simp; exact hR _ _ (Below.refl _ _) rfl)
        case o11 => (intro ρ w1 R hρ hb hp hR; have eg : ρ (.tmp 37) = .bool false := hp 6 37 rfl rfl; refine ⟨fun _ => ?_, fun hg => absurd hg (by simp [guardOf, eg])⟩; clear eg; have e41 : ρ (.tmp 41) = _ := hp 10 41 rfl rfl; obtain ⟨⟨j0, j1, -, -, -⟩, j2, -⟩ := zA.below hb; have hcon := hρ.con; have hfn := hρ.fn; clear hρ hp; unfold OpRun; go_simp; exact hR _ _ (Below.refl _ _) rfl)
        case o12 => (intro ρ w1 R hρ hb hp hR; have eg : ρ (.tmp 37) = .bool false := hp 6 37 rfl rfl; refine ⟨fun _ => ?_, fun hg => absurd hg (by simp [guardOf, eg])⟩; clear eg; have e8 : ρ (.tmp 8) = .pointer (some ⟨w.heap.size + 1, 0, none⟩) := hρ.tmp 8 rfl; have hcon := hρ.con; have hfn := hρ.fn; clear hρ hp; unfold OpRun; go_simp; exact hR _ _ (Below.refl _ _) rfl)
        case o13 => (intro ρ w1 R hρ hb hp hR; have eg : ρ (.tmp 37) = .bool false := hp 6 37 rfl rfl; refine ⟨fun _ => ?_, fun hg => absurd hg (by simp [guardOf, eg])⟩; clear eg; have e43 : ρ (.tmp 43) = _ := hp 12 43 rfl rfl; obtain ⟨⟨j0, j1, -, -, -⟩, j2, -⟩ := zB.below hb; have hcon := hρ.con; have hfn := hρ.fn; clear hρ hp; unfold OpRun; go_simp; exact hR _ _ (Below.refl _ _) rfl)
        case o14 => (intro ρ w1 R hρ hb hp hR; have eg : ρ (.tmp 37) = .bool false := hp 6 37 rfl rfl; refine ⟨fun _ => ?_, fun hg => absurd hg (by simp [guardOf, eg])⟩; clear eg; have e42 : ρ (.tmp 42) = _ := hp 11 42 rfl rfl; have e44 : ρ (.tmp 44) = _ := hp 13 44 rfl rfl; have hcon := hρ.con; have hfn := hρ.fn; clear hρ hp; unfold OpRun; go_simp; exact hR _ _ (Below.refl _ _) rfl)
        case o15 => (intro ρ w1 R hρ hb hp hR; have eg : ρ (.tmp 37) = .bool false := hp 6 37 rfl rfl; refine ⟨fun _ => ?_, fun hg => absurd hg (by simp [guardOf, eg])⟩; clear eg; have e45 : ρ (.tmp 45) = _ := hp 14 45 rfl rfl; have hcon := hρ.con; have hfn := hρ.fn; clear hρ hp; unfold OpRun; go_simp; exact hR _ _ (Below.refl _ _) rfl)
        case o16 => (intro ρ w1 R hρ hb hp hR; have eg : ρ (.tmp 46) = .bool true := hp 15 46 rfl rfl; refine ⟨fun _ => ?_, fun hg => absurd hg (by simp [guardOf, eg])⟩; clear eg; have e7 : ρ (.tmp 7) = .pointer (some ⟨w.heap.size, 0, none⟩) := hρ.tmp 7 rfl; have hcon := hρ.con; have hfn := hρ.fn; clear hρ hp; unfold OpRun; go_simp; exact hR _ _ (Below.refl _ _) rfl)
        case o17 => (intro ρ w1 R hρ hb hp hR; have eg : ρ (.tmp 46) = .bool true := hp 15 46 rfl rfl; refine ⟨fun _ => ?_, fun hg => absurd hg (by simp [guardOf, eg])⟩; clear eg; have e47 : ρ (.tmp 47) = _ := hp 16 47 rfl rfl; obtain ⟨⟨j0, j1, -, -, -⟩, j2, -⟩ := zA.below hb; have hcon := hρ.con; have hfn := hρ.fn; clear hρ hp; unfold OpRun; go_simp; exact hR _ _ (Below.refl _ _) rfl)
        case o18 => (intro ρ w1 R hρ hb hp hR; have eg : ρ (.tmp 46) = .bool true := hp 15 46 rfl rfl; refine ⟨fun _ => ?_, fun hg => absurd hg (by simp [guardOf, eg])⟩; clear eg; have e8 : ρ (.tmp 8) = .pointer (some ⟨w.heap.size + 1, 0, none⟩) := hρ.tmp 8 rfl; have hcon := hρ.con; have hfn := hρ.fn; clear hρ hp; unfold OpRun; go_simp; exact hR _ _ (Below.refl _ _) rfl)
        case o19 => (intro ρ w1 R hρ hb hp hR; have eg : ρ (.tmp 46) = .bool true := hp 15 46 rfl rfl; refine ⟨fun _ => ?_, fun hg => absurd hg (by simp [guardOf, eg])⟩; clear eg; have e49 : ρ (.tmp 49) = _ := hp 18 49 rfl rfl; obtain ⟨⟨j0, j1, -, -, -⟩, j2, -⟩ := zB.below hb; have hcon := hρ.con; have hfn := hρ.fn; clear hρ hp; unfold OpRun; go_simp; exact hR _ _ (Below.refl _ _) rfl)
        case o20 => (intro ρ w1 R hρ hb hp hR; have eg : ρ (.tmp 46) = .bool true := hp 15 46 rfl rfl; refine ⟨fun _ => ?_, fun hg => absurd hg (by simp [guardOf, eg])⟩; clear eg; have e48 : ρ (.tmp 48) = _ := hp 17 48 rfl rfl; have e50 : ρ (.tmp 50) = _ := hp 19 50 rfl rfl; have hcon := hρ.con; have hfn := hρ.fn; clear hρ hp; unfold OpRun; go_simp; exact hR _ _ (Below.refl _ _) rfl)
        case o21 => (intro ρ w1 R hρ hb hp hR; have eg : ρ (.tmp 37) = .bool false := hp 6 37 rfl rfl; refine ⟨fun _ => ?_, fun hg => absurd hg (by simp [guardOf, eg])⟩; clear eg; have e46 : ρ (.tmp 46) = _ := hp 15 46 rfl rfl; have e51 : ρ (.tmp 51) = _ := hp 20 51 rfl rfl; have hcon := hρ.con; have hfn := hρ.fn; clear hρ hp; unfold OpRun; go_simp; exact hR _ _ (Below.refl _ _) rfl)
        case o22 => (intro ρ w1 R hρ hb hp hR; have eg : ρ (.tmp 37) = .bool false := hp 6 37 rfl rfl; refine ⟨fun _ => ?_, fun hg => absurd hg (by simp [guardOf, eg])⟩; clear eg; have e52 : ρ (.tmp 52) = _ := hp 21 52 rfl rfl; have hcon := hρ.con; have hfn := hρ.fn; clear hρ hp; unfold OpRun; go_simp; exact hR _ _ (Below.refl _ _) rfl)
        case o23 => (intro ρ w1 R hρ hb hp hR; have eg : ρ (.tmp 53) = .bool true := hp 22 53 rfl rfl; refine ⟨fun _ => ?_, fun hg => absurd hg (by simp [guardOf, eg])⟩; clear eg; have e7 : ρ (.tmp 7) = .pointer (some ⟨w.heap.size, 0, none⟩) := hρ.tmp 7 rfl; have hcon := hρ.con; have hfn := hρ.fn; clear hρ hp; unfold OpRun; go_simp; exact hR _ _ (Below.refl _ _) rfl)
        case o24 => (intro ρ w1 R hρ hb hp hR; have eg : ρ (.tmp 53) = .bool true := hp 22 53 rfl rfl; refine ⟨fun _ => ?_, fun hg => absurd hg (by simp [guardOf, eg])⟩; clear eg; have e54 : ρ (.tmp 54) = _ := hp 23 54 rfl rfl; obtain ⟨⟨j0, j1, -, -, -⟩, j2, -⟩ := zA.below hb; have hcon := hρ.con; have hfn := hρ.fn; clear hρ hp; unfold OpRun; go_simp; exact hR _ _ (Below.refl _ _) rfl)
        case o25 => (intro ρ w1 R hρ hb hp hR; have eg : ρ (.tmp 53) = .bool true := hp 22 53 rfl rfl; refine ⟨fun _ => ?_, fun hg => absurd hg (by simp [guardOf, eg])⟩; clear eg; have e8 : ρ (.tmp 8) = .pointer (some ⟨w.heap.size + 1, 0, none⟩) := hρ.tmp 8 rfl; have hcon := hρ.con; have hfn := hρ.fn; clear hρ hp; unfold OpRun; go_simp; exact hR _ _ (Below.refl _ _) rfl)
        case o26 => (intro ρ w1 R hρ hb hp hR; have eg : ρ (.tmp 53) = .bool true := hp 22 53 rfl rfl; refine ⟨fun _ => ?_, fun hg => absurd hg (by simp [guardOf, eg])⟩; clear eg; have e56 : ρ (.tmp 56) = _ := hp 25 56 rfl rfl; obtain ⟨⟨j0, j1, -, -, -⟩, j2, -⟩ := zB.below hb; have hcon := hρ.con; have hfn := hρ.fn; clear hρ hp; unfold OpRun; go_simp; exact hR _ _ (Below.refl _ _) rfl)
        case o27 => (intro ρ w1 R hρ hb hp hR; have eg : ρ (.tmp 53) = .bool true := hp 22 53 rfl rfl; refine ⟨fun _ => ?_, fun hg => absurd hg (by simp [guardOf, eg])⟩; clear eg; have e55 : ρ (.tmp 55) = _ := hp 24 55 rfl rfl; have e57 : ρ (.tmp 57) = _ := hp 26 57 rfl rfl; have hcon := hρ.con; have hfn := hρ.fn; clear hρ hp; unfold OpRun; go_simp; (refine (SE.out _ (H0.out.below (below_trans yb hb)) (H1.out.below (below_trans yb hb))).mono ?_; rintro e wn ⟨rfl, hbn⟩; exact ⟨_, rfl, hR _ _ hbn rfl⟩))
        case o28 => (intro ρ w1 R hρ hb hp hR; have eg : ρ (.tmp 37) = .bool false := hp 6 37 rfl rfl; refine ⟨fun _ => ?_, fun hg => absurd hg (by simp [guardOf, eg])⟩; clear eg; have e53 : ρ (.tmp 53) = _ := hp 22 53 rfl rfl; have e58 : ρ (.tmp 58) = _ := hp 27 58 rfl rfl; have hcon := hρ.con; have hfn := hρ.fn; clear hρ hp; unfold OpRun; go_simp; exact hR _ _ (Below.refl _ _) rfl)
        case o29 => (intro ρ w1 R hρ hb hp hR; have eg : ρ (.tmp 37) = .bool false := hp 6 37 rfl rfl; refine ⟨fun _ => ?_, fun hg => absurd hg (by simp [guardOf, eg])⟩; clear eg; have e40 : ρ (.tmp 40) = _ := hp 9 40 rfl rfl; have e59 : ρ (.tmp 59) = _ := hp 28 59 rfl rfl; have hcon := hρ.con; have hfn := hρ.fn; clear hρ hp; unfold OpRun; go_simp; exact hR _ _ (Below.refl _ _) rfl)
        case o30 => (refine StepOK.plain rfl ?_; intro ρ w1 R hρ hb hp hR; have e37 : ρ (.tmp 37) = _ := hp 6 37 rfl rfl; have e60 : ρ (.tmp 60) = _ := hp 29 60 rfl rfl; have hcon := hρ.con; have hfn := hρ.fn; clear hρ hp; unfold OpRun; go_simp; exact hR _ _ (Below.refl _ _) rfl)
        case after =>
          intro u wn hb hf
          have e61 : u 61 = _ := hf 30 61 (by omega) rfl
          clear hf
          simp only [putAll, Act.put, List.setIfInBounds_toArray, List.set_cons_zero, List.set_cons_succ, List.drop_succ_cons, List.drop_zero, List.drop_nil]
          rw [e61]
          go_wp2_with fail
          go_meet
          exact ⟨rfl, hb⟩
      · have e := HSB.out.2 (fun h => hxx h.2)
        have hnb : (n0 == n1) = true := beq_iff_eq.2 hn
        have hxb : (x0 == x1) = false := beq_eq_false_iff_ne.2 hxx
        subst e
        clear hn hxx HSB SE
        refine wp_region_grow 31 [31, 32, 33, 34, 35, 36, 37, 38, 39, 40, 41, 42, 43, 44, 45, 46, 47, 48, 49, 50, 51, 52, 53, 54, 55, 56, 57, 58, 59, 60, 61] [Fact.is (.agg #[.bool n1, .slice a1 L1.length c1, .int .i64 x1]), Fact.is (.int .i64 F1), Fact.is (.agg #[.bool n1, .slice a1 L1.length c1, .int .i64 x1]), Fact.ds n1 (.slice a1 L1.length c1) x1, Fact.is (.int .i64 F1), Fact.is (.bool false), Fact.is (.bool false), Fact.is (.agg #[.bool n0, .slice a0 L0.length c0, .int .i64 x0]), Fact.is (.agg #[.bool n1, .slice a1 L1.length c1, .int .i64 x1]), Fact.is (.bool false), Fact.is (.pointer (some ⟨w.heap.size, 0, none⟩)), Fact.is (.bool n0), Fact.is (.pointer (some ⟨w.heap.size + 1, 0, none⟩)), Fact.is (.bool n1), Fact.is (.bool true), Fact.is (.bool true), Fact.is (.pointer (some ⟨w.heap.size, 2, none⟩)), Fact.is (.int .i64 x0), Fact.is (.pointer (some ⟨w.heap.size + 1, 2, none⟩)), Fact.is (.int .i64 x1), Fact.is (.bool false), Fact.is (.bool false), Fact.is (.bool false), Fact.any, Fact.any, Fact.any, Fact.any, Fact.any, Fact.is (.bool false), Fact.is (.bool false), Fact.is (.bool false)] (by kernel_rfl) (by kernel_rfl) ⟨?o0, ?o1, ?o2, ?o3, ?o4, ?o5, ?o6, ?o7, ?o8, ?o9, ?o10, ?o11, ?o12, ?o13, ?o14, ?o15, ?o16, ?o17, ?o18, ?o19, ?o20, ?o21, ?o22, ?o23, ?o24, ?o25, ?o26, ?o27, ?o28, ?o29, ?o30, trivial⟩ ?after
        case o0 => (refine StepOK.plain rfl ?_; intro ρ w1 R hρ hb hp hR; have e8 : ρ (.tmp 8) = .pointer (some ⟨w.heap.size + 1, 0, none⟩) := hρ.tmp 8 rfl; obtain ⟨⟨j0, j1, -, -, -⟩, j2, -⟩ := zB.below hb; have hcon := hρ.con; have hfn := hρ.fn; clear hρ hp; unfold OpRun; go_simp; exact hR _ _ (Below.refl _ _) rfl)
        case o1 => (refine StepOK.plain rfl ?_; intro ρ w1 R hρ hb hp hR; have e31 : ρ (.tmp 31) = _ := hp 0 31 rfl rfl; have hcon := hρ.con; have hfn := hρ.fn; clear hρ hp; unfold OpRun; go_simp; (refine (CK.out _ (H1.out.below (below_trans yb hb))).mono ?_; rintro e wn ⟨rfl, hbn⟩; exact ⟨_, rfl, hR _ _ hbn rfl⟩))
        case o2 => (refine StepOK.plain rfl ?_; intro ρ w1 R hρ hb hp hR; have e8 : ρ (.tmp 8) = .pointer (some ⟨w.heap.size + 1, 0, none⟩) := hρ.tmp 8 rfl; obtain ⟨⟨j0, j1, -, -, -⟩, j2, -⟩ := zB.below hb; have hcon := hρ.con; have hfn := hρ.fn; clear hρ hp; unfold OpRun; go_simp; exact hR _ _ (Below.refl _ _) rfl)
        case o3 => (refine StepOK.plain rfl ?_; intro ρ w1 R hρ hb hp hR; have e33 : ρ (.tmp 33) = _ := hp 2 33 rfl rfl; have hcon := hρ.con; have hfn := hρ.fn; clear hρ hp; unfold OpRun; go_simp; exact hR _ _ (below_alloc _ _) ⟨_, rfl, DC.mk1⟩)
        case o4 => (refine StepOK.plain rfl ?_; intro ρ w1 R hρ hb hp hR; have f34 := hp 3 34 rfl rfl; obtain ⟨g34, e34, hd34⟩ := f34; have hcon := hρ.con; have hfn := hρ.fn; clear hρ hp; unfold OpRun; go_simp; (refine (R1.out _ _ hd34 (H1.out.below (below_trans yb hb))).mono ?_; rintro e wn ⟨rfl, hbn⟩; exact ⟨_, rfl, hR _ _ hbn rfl⟩))
        case o5 => (refine StepOK.plain rfl ?_; intro ρ w1 R hρ hb hp hR; have e32 : ρ (.tmp 32) = _ := hp 1 32 rfl rfl; have e35 : ρ (.tmp 35) = _ := hp 4 35 rfl rfl; have hcon := hρ.con; have hfn := hρ.fn; clear hρ hp; unfold OpRun; go_simp; exact hR _ _ (Below.refl _ _) rfl)
        case o6 => (refine StepOK.plain rfl ?_; intro ρ w1 R hρ hb hp hR; have e36 : ρ (.tmp 36) = _ := hp 5 36 rfl rfl; have hcon := hρ.con; have hfn := hρ.fn; clear hρ hp; unfold OpRun; go_simp; exact hR _ _ (Below.refl _ _) rfl)
        case o7 => (intro ρ w1 R hρ hb hp hR; have eg : ρ (.tmp 37) = .bool false := hp 6 37 rfl rfl; refine ⟨fun _ => ?_, fun hg => absurd hg (by simp [guardOf, eg])⟩; clear eg; have e7 : ρ (.tmp 7) = .pointer (some ⟨w.heap.size, 0, none⟩) := hρ.tmp 7 rfl; obtain ⟨⟨j0, j1, -, -, -⟩, j2, -⟩ := zA.below hb; have hcon := hρ.con; have hfn := hρ.fn; clear hρ hp; unfold OpRun; go_simp; exact hR _ _ (Below.refl _ _) rfl)
        case o8 => (intro ρ w1 R hρ hb hp hR; have eg : ρ (.tmp 37) = .bool false := hp 6 37 rfl rfl; refine ⟨fun _ => ?_, fun hg => absurd hg (by simp [guardOf, eg])⟩; clear eg; have e8 : ρ (.tmp 8) = .pointer (some ⟨w.heap.size + 1, 0, none⟩) := hρ.tmp 8 rfl; obtain ⟨⟨j0, j1, -, -, -⟩, j2, -⟩ := zB.below hb; have hcon := hρ.con; have hfn := hρ.fn; clear hρ hp; unfold OpRun; go_simp; exact hR _ _ (Below.refl _ _) rfl)
        case o9 => (intro ρ w1 R hρ hb hp hR; have eg : ρ (.tmp 37) = .bool false := hp 6 37 rfl rfl; refine ⟨fun _ => ?_, fun hg => absurd hg (by simp [guardOf, eg])⟩; clear eg; have e38 : ρ (.tmp 38) = _ := hp 7 38 rfl rfl; have e39 : ρ (.tmp 39) = _ := hp 8 39 rfl rfl; have hcon := hρ.con; have hfn := hρ.fn; clear hρ hp; unfold OpRun; go_simp; (refine (SM.out _ (H0.out.below (below_trans yb hb)) (H1.out.below (below_trans yb hb))).mono ?_; rintro e wn ⟨rfl, hbn⟩; exact ⟨_, rfl, hR _ _ hbn rfl⟩))
        case o10 => (intro ρ w1 R hρ hb hp hR; have eg : ρ (.tmp 37) = .bool false := hp 6 37 rfl rfl; refine ⟨fun _ => ?_, fun hg => absurd hg (by simp [guardOf, eg])⟩; clear eg; have e7 : ρ (.tmp 7) = .pointer (some ⟨w.heap.size, 0, none⟩) := hρ.tmp 7 rfl; have hcon := hρ.con; have hfn := hρ.fn; clear hρ hp; unfold OpRun; go_simp; exact hR _ _ (Below.refl _ _) rfl)
        case o11 => (intro ρ w1 R hρ hb hp hR; have eg : ρ (.tmp 37) = .bool false := hp 6 37 rfl rfl; refine ⟨fun _ => ?_, fun hg => absurd hg (by simp [guardOf, eg])⟩; clear eg; have e41 : ρ (.tmp 41) = _ := hp 10 41 rfl rfl; obtain ⟨⟨j0, j1, -, -, -⟩, j2, -⟩ := zA.below hb; have hcon := hρ.con; have hfn := hρ.fn; clear hρ hp; unfold OpRun; go_simp; exact hR _ _ (Below.refl _ _) rfl)
        case o12 => (intro ρ w1 R hρ hb hp hR; have eg : ρ (.tmp 37) = .bool false := hp 6 37 rfl rfl; refine ⟨fun _ => ?_, fun hg => absurd hg (by simp [guardOf, eg])⟩; clear eg; have e8 : ρ (.tmp 8) = .pointer (some ⟨w.heap.size + 1, 0, none⟩) := hρ.tmp 8 rfl; have hcon := hρ.con; have hfn := hρ.fn; clear hρ hp; unfold OpRun; go_simp; exact hR _ _ (Below.refl _ _) rfl)
        case o13 => (intro ρ w1 R hρ hb hp hR; have eg : ρ (.tmp 37) = .bool false := hp 6 37 rfl rfl; refine ⟨fun _ => ?_, fun hg => absurd hg (by simp [guardOf, eg])⟩; clear eg; have e43 : ρ (.tmp 43) = _ := hp 12 43 rfl rfl; obtain ⟨⟨j0, j1, -, -, -⟩, j2, -⟩ := zB.below hb; have hcon := hρ.con; have hfn := hρ.fn; clear hρ hp; unfold OpRun; go_simp; exact hR _ _ (Below.refl _ _) rfl)
        case o14 => (intro ρ w1 R hρ hb hp hR; have eg : ρ (.tmp 37) = .bool false := hp 6 37 rfl rfl; refine ⟨fun _ => ?_, fun hg => absurd hg (by simp [guardOf, eg])⟩; clear eg; have e42 : ρ (.tmp 42) = _ := hp 11 42 rfl rfl; have e44 : ρ (.tmp 44) = _ := hp 13 44 rfl rfl; have hcon := hρ.con; have hfn := hρ.fn; clear hρ hp; unfold OpRun; go_simp; exact hR _ _ (Below.refl _ _) rfl)
        case o15 => (intro ρ w1 R hρ hb hp hR; have eg : ρ (.tmp 37) = .bool false := hp 6 37 rfl rfl; refine ⟨fun _ => ?_, fun hg => absurd hg (by simp [guardOf, eg])⟩; clear eg; have e45 : ρ (.tmp 45) = _ := hp 14 45 rfl rfl; have hcon := hρ.con; have hfn := hρ.fn; clear hρ hp; unfold OpRun; go_simp; exact hR _ _ (Below.refl _ _) rfl)
        case o16 => (intro ρ w1 R hρ hb hp hR; have eg : ρ (.tmp 46) = .bool true := hp 15 46 rfl rfl; refine ⟨fun _ => ?_, fun hg => absurd hg (by simp [guardOf, eg])⟩; clear eg; have e7 : ρ (.tmp 7) = .pointer (some ⟨w.heap.size, 0, none⟩) := hρ.tmp 7 rfl; have hcon := hρ.con; have hfn := hρ.fn; clear hρ hp; unfold OpRun; go_simp; exact hR _ _ (Below.refl _ _) rfl)
        case o17 => (intro ρ w1 R hρ hb hp hR; have eg : ρ (.tmp 46) = .bool true := hp 15 46 rfl rfl; refine ⟨fun _ => ?_, fun hg => absurd hg (by simp [guardOf, eg])⟩; clear eg; have e47 : ρ (.tmp 47) = _ := hp 16 47 rfl rfl; obtain ⟨⟨j0, j1, -, -, -⟩, j2, -⟩ := zA.below hb; have hcon := hρ.con; have hfn := hρ.fn; clear hρ hp; unfold OpRun; go_simp; exact hR _ _ (Below.refl _ _) rfl)
        case o18 => (intro ρ w1 R hρ hb hp hR; have eg : ρ (.tmp 46) = .bool true := hp 15 46 rfl rfl; refine ⟨fun _ => ?_, fun hg => absurd hg (by simp [guardOf, eg])⟩; clear eg; have e8 : ρ (.tmp 8) = .pointer (some ⟨w.heap.size + 1, 0, none⟩) := hρ.tmp 8 rfl; have hcon := hρ.con; have hfn := hρ.fn; clear hρ hp; unfold OpRun; go_simp; exact hR _ _ (Below.refl _ _) rfl)
        case o19 => (intro ρ w1 R hρ hb hp hR; have eg : ρ (.tmp 46) = .bool true := hp 15 46 rfl rfl; refine ⟨fun _ => ?_, fun hg => absurd hg (by simp [guardOf, eg])⟩; clear eg; have e49 : ρ (.tmp 49) = _ := hp 18 49 rfl rfl; obtain ⟨⟨j0, j1, -, -, -⟩, j2, -⟩ := zB.below hb; have hcon := hρ.con; have hfn := hρ.fn; clear hρ hp; unfold OpRun; go_simp; exact hR _ _ (Below.refl _ _) rfl)
        case o20 => (intro ρ w1 R hρ hb hp hR; have eg : ρ (.tmp 46) = .bool true := hp 15 46 rfl rfl; refine ⟨fun _ => ?_, fun hg => absurd hg (by simp [guardOf, eg])⟩; clear eg; have e48 : ρ (.tmp 48) = _ := hp 17 48 rfl rfl; have e50 : ρ (.tmp 50) = _ := hp 19 50 rfl rfl; have hcon := hρ.con; have hfn := hρ.fn; clear hρ hp; unfold OpRun; go_simp; exact hR _ _ (Below.refl _ _) rfl)
        case o21 => (intro ρ w1 R hρ hb hp hR; have eg : ρ (.tmp 37) = .bool false := hp 6 37 rfl rfl; refine ⟨fun _ => ?_, fun hg => absurd hg (by simp [guardOf, eg])⟩; clear eg; have e46 : ρ (.tmp 46) = _ := hp 15 46 rfl rfl; have e51 : ρ (.tmp 51) = _ := hp 20 51 rfl rfl; have hcon := hρ.con; have hfn := hρ.fn; clear hρ hp; unfold OpRun; go_simp; exact hR _ _ (Below.refl _ _) rfl)
        case o22 => (intro ρ w1 R hρ hb hp hR; have eg : ρ (.tmp 37) = .bool false := hp 6 37 rfl rfl; refine ⟨fun _ => ?_, fun hg => absurd hg (by simp [guardOf, eg])⟩; clear eg; have e52 : ρ (.tmp 52) = _ := hp 21 52 rfl rfl; have hcon := hρ.con; have hfn := hρ.fn; clear hρ hp; unfold OpRun; go_simp; exact hR _ _ (Below.refl _ _) rfl)
        case o23 => (intro ρ w1 R hρ hb hp hR; have eg : ρ (.tmp 53) = .bool false := hp 22 53 rfl rfl; exact ⟨fun hg => absurd hg (by simp [guardOf, eg]), fun _ => trivial⟩)
        case o24 => (intro ρ w1 R hρ hb hp hR; have eg : ρ (.tmp 53) = .bool false := hp 22 53 rfl rfl; exact ⟨fun hg => absurd hg (by simp [guardOf, eg]), fun _ => trivial⟩)
        case o25 => (intro ρ w1 R hρ hb hp hR; have eg : ρ (.tmp 53) = .bool false := hp 22 53 rfl rfl; exact ⟨fun hg => absurd hg (by simp [guardOf, eg]), fun _ => trivial⟩)
        case o26 => (intro ρ w1 R hρ hb hp hR; have eg : ρ (.tmp 53) = .bool false := hp 22 53 rfl rfl; exact ⟨fun hg => absurd hg (by simp [guardOf, eg]), fun _ => trivial⟩)
        case o27 => (intro ρ w1 R hρ hb hp hR; have eg : ρ (.tmp 53) = .bool false := hp 22 53 rfl rfl; exact ⟨fun hg => absurd hg (by simp [guardOf, eg]), fun _ => trivial⟩)
        case o28 => (intro ρ w1 R hρ hb hp hR; have eg : ρ (.tmp 37) = .bool false := hp 6 37 rfl rfl; refine ⟨fun _ => ?_, fun hg => absurd hg (by simp [guardOf, eg])⟩; clear eg; have e53 : ρ (.tmp 53) = _ := hp 22 53 rfl rfl; have f58 := hp 27 58 rfl rfl; have hcon := hρ.con; have hfn := hρ.fn; clear hρ hp; unfold OpRun; go_simp; exact hR _ _ (Below.refl _ _) rfl)
        case o29 => (intro ρ w1 R hρ hb hp hR; have eg : ρ (.tmp 37) = .bool false := hp 6 37 rfl rfl; refine ⟨fun _ => ?_, fun hg => absurd hg (by simp [guardOf, eg])⟩; clear eg; have e40 : ρ (.tmp 40) = _ := hp 9 40 rfl rfl; have e59 : ρ (.tmp 59) = _ := hp 28 59 rfl rfl; have hcon := hρ.con; have hfn := hρ.fn; clear hρ hp; unfold OpRun; go_simp; exact hR _ _ (Below.refl _ _) rfl)
        case o30 => (refine StepOK.plain rfl ?_; intro ρ w1 R hρ hb hp hR; have e37 : ρ (.tmp 37) = _ := hp 6 37 rfl rfl; have e60 : ρ (.tmp 60) = _ := hp 29 60 rfl rfl; have hcon := hρ.con; have hfn := hρ.fn; clear hρ hp; unfold OpRun; go_simp; exact hR _ _ (Below.refl _ _) rfl)
        case after =>
          intro u wn hb hf
          have e61 : u 61 = _ := hf 30 61 (by omega) rfl
          clear hf
          simp only [putAll, Act.put, List.setIfInBounds_toArray, List.set_cons_zero, List.set_cons_succ, List.drop_succ_cons, List.drop_zero, List.drop_nil]
          rw [e61]
          go_wp2_with fail
          go_meet
          exact ⟨rfl, hb⟩
    · have e := HSB.out.2 (fun h => hn h.1)
      have hnb : (n0 == n1) = false := beq_eq_false_iff_ne.2 hn
      subst e
      clear hn HSB SE
      refine wp_region_grow 31 [31, 32, 33, 34, 35, 36, 37, 38, 39, 40, 41, 42, 43, 44, 45, 46, 47, 48, 49, 50, 51, 52, 53, 54, 55, 56, 57, 58, 59, 60, 61] [Fact.is (.agg #[.bool n1, .slice a1 L1.length c1, .int .i64 x1]), Fact.is (.int .i64 F1), Fact.is (.agg #[.bool n1, .slice a1 L1.length c1, .int .i64 x1]), Fact.ds n1 (.slice a1 L1.length c1) x1, Fact.is (.int .i64 F1), Fact.is (.bool false), Fact.is (.bool false), Fact.is (.agg #[.bool n0, .slice a0 L0.length c0, .int .i64 x0]), Fact.is (.agg #[.bool n1, .slice a1 L1.length c1, .int .i64 x1]), Fact.is (.bool false), Fact.is (.pointer (some ⟨w.heap.size, 0, none⟩)), Fact.is (.bool n0), Fact.is (.pointer (some ⟨w.heap.size + 1, 0, none⟩)), Fact.is (.bool n1), Fact.is (.bool false), Fact.is (.bool false), Fact.any, Fact.any, Fact.any, Fact.any, Fact.any, Fact.is (.bool false), Fact.is (.bool false), Fact.any, Fact.any, Fact.any, Fact.any, Fact.any, Fact.is (.bool false), Fact.is (.bool false), Fact.is (.bool false)] (by kernel_rfl) (by kernel_rfl) ⟨?o0, ?o1, ?o2, ?o3, ?o4, ?o5, ?o6, ?o7, ?o8, ?o9, ?o10, ?o11, ?o12, ?o13, ?o14, ?o15, ?o16, ?o17, ?o18, ?o19, ?o20, ?o21, ?o22, ?o23, ?o24, ?o25, ?o26, ?o27, ?o28, ?o29, ?o30, trivial⟩ ?after
      case o0 => (refine StepOK.plain rfl ?_; intro ρ w1 R hρ hb hp hR; have e8 : ρ (.tmp 8) = .pointer (some ⟨w.heap.size + 1, 0, none⟩) := hρ.tmp 8 rfl; obtain ⟨⟨j0, j1, -, -, -⟩, j2, -⟩ := zB.below hb; have hcon := hρ.con; have hfn := hρ.fn; clear hρ hp; unfold OpRun; go_simp; exact hR _ _ (Below.refl _ _) rfl)
      case o1 => (refine StepOK.plain rfl ?_; intro ρ w1 R hρ hb hp hR; have e31 : ρ (.tmp 31) = _ := hp 0 31 rfl rfl; have hcon := hρ.con; have hfn := hρ.fn; clear hρ hp; unfold OpRun; go_simp; (refine (CK.out _ (H1.out.below (below_trans yb hb))).mono ?_; rintro e wn ⟨rfl, hbn⟩; exact ⟨_, rfl, hR _ _ hbn rfl⟩))
      case o2 => (refine StepOK.plain rfl ?_; intro ρ w1 R hρ hb hp hR; have e8 : ρ (.tmp 8) = .pointer (some ⟨w.heap.size + 1, 0, none⟩) := hρ.tmp 8 rfl; obtain ⟨⟨j0, j1, -, -, -⟩, j2, -⟩ := zB.below hb; have hcon := hρ.con; have hfn := hρ.fn; clear hρ hp; unfold OpRun; go_simp; exact hR _ _ (Below.refl _ _) rfl)
      case o3 => (refine StepOK.plain rfl ?_; intro ρ w1 R hρ hb hp hR; have e33 : ρ (.tmp 33) = _ := hp 2 33 rfl rfl; have hcon := hρ.con; have hfn := hρ.fn; clear hρ hp; unfold OpRun; go_simp; exact hR _ _ (below_alloc _ _) ⟨_, rfl, DC.mk1⟩)
      case o4 => (refine StepOK.plain rfl ?_; intro ρ w1 R hρ hb hp hR; have f34 := hp 3 34 rfl rfl; obtain ⟨g34, e34, hd34⟩ := f34; have hcon := hρ.con; have hfn := hρ.fn; clear hρ hp; unfold OpRun; go_simp; (refine (R1.out _ _ hd34 (H1.out.below (below_trans yb hb))).mono ?_; rintro e wn ⟨rfl, hbn⟩; exact ⟨_, rfl, hR _ _ hbn rfl⟩))
      case o5 => (refine StepOK.plain rfl ?_; intro ρ w1 R hρ hb hp hR; have e32 : ρ (.tmp 32) = _ := hp 1 32 rfl rfl; have e35 : ρ (.tmp 35) = _ := hp 4 35 rfl rfl; have hcon := hρ.con; have hfn := hρ.fn; clear hρ hp; unfold OpRun; go_simp; exact hR _ _ (Below.refl _ _) rfl)
      case o6 => (refine StepOK.plain rfl ?_; intro ρ w1 R hρ hb hp hR; have e36 : ρ (.tmp 36) = _ := hp 5 36 rfl rfl; have hcon := hρ.con; have hfn := hρ.fn; clear hρ hp; unfold OpRun; go_simp; exact hR _ _ (Below.refl _ _) rfl)
      case o7 => (intro ρ w1 R hρ hb hp hR; have eg : ρ (.tmp 37) = .bool false := hp 6 37 rfl rfl; refine ⟨fun _ => ?_, fun hg => absurd hg (by simp [guardOf, eg])⟩; clear eg; have e7 : ρ (.tmp 7) = .pointer (some ⟨w.heap.size, 0, none⟩) := hρ.tmp 7 rfl; obtain ⟨⟨j0, j1, -, -, -⟩, j2, -⟩ := zA.below hb; have hcon := hρ.con; have hfn := hρ.fn; clear hρ hp; unfold OpRun; go_simp; exact hR _ _ (Below.refl _ _) rfl)
      case o8 => (intro ρ w1 R hρ hb hp hR; have eg : ρ (.tmp 37) = .bool false := hp 6 37 rfl rfl; refine ⟨fun _ => ?_, fun hg => absurd hg (by simp [guardOf, eg])⟩; clear eg; have e8 : ρ (.tmp 8) = .pointer (some ⟨w.heap.size + 1, 0, none⟩) := hρ.tmp 8 rfl; obtain ⟨⟨j0, j1, -, -, -⟩, j2, -⟩ := zB.below hb; have hcon := hρ.con; have hfn := hρ.fn; clear hρ hp; unfold OpRun; go_simp; exact hR _ _ (Below.refl _ _) rfl)
      case o9 => (intro ρ w1 R hρ hb hp hR; have eg : ρ (.tmp 37) = .bool false := hp 6 37 rfl rfl; refine ⟨fun _ => ?_, fun hg => absurd hg (by simp [guardOf, eg])⟩; clear eg; have e38 : ρ (.tmp 38) = _ := hp 7 38 rfl rfl; have e39 : ρ (.tmp 39) = _ := hp 8 39 rfl rfl; have hcon := hρ.con; have hfn := hρ.fn; clear hρ hp; unfold OpRun; go_simp; (refine (SM.out _ (H0.out.below (below_trans yb hb)) (H1.out.below (below_trans yb hb))).mono ?_; rintro e wn ⟨rfl, hbn⟩; exact ⟨_, rfl, hR _ _ hbn rfl⟩))
      case o10 => (intro ρ w1 R hρ hb hp hR; have eg : ρ (.tmp 37) = .bool false := hp 6 37 rfl rfl; refine ⟨fun _ => ?_, fun hg => absurd hg (by simp [guardOf, eg])⟩; clear eg; have e7 : ρ (.tmp 7) = .pointer (some ⟨w.heap.size, 0, none⟩) := hρ.tmp 7 rfl; have hcon := hρ.con; have hfn := hρ.fn; clear hρ hp; unfold OpRun; go_simp; exact hR _ _ (Below.refl _ _) rfl)
      case o11 => (intro ρ w1 R hρ hb hp hR; have eg : ρ (.tmp 37) = .bool false := hp 6 37 rfl rfl; refine ⟨fun _ => ?_, fun hg => absurd hg (by simp [guardOf, eg])⟩; clear eg; have e41 : ρ (.tmp 41) = _ := hp 10 41 rfl rfl; obtain ⟨⟨j0, j1, -, -, -⟩, j2, -⟩ := zA.below hb; have hcon := hρ.con; have hfn := hρ.fn; clear hρ hp; unfold OpRun; go_simp; exact hR _ _ (Below.refl _ _) rfl)
      case o12 => (intro ρ w1 R hρ hb hp hR; have eg : ρ (.tmp 37) = .bool false := hp 6 37 rfl rfl; refine ⟨fun _ => ?_, fun hg => absurd hg (by simp [guardOf, eg])⟩; clear eg; have e8 : ρ (.tmp 8) = .pointer (some ⟨w.heap.size + 1, 0, none⟩) := hρ.tmp 8 rfl; have hcon := hρ.con; have hfn := hρ.fn; clear hρ hp; unfold OpRun; go_simp; exact hR _ _ (Below.refl _ _) rfl)
      case o13 => (intro ρ w1 R hρ hb hp hR; have eg : ρ (.tmp 37) = .bool false := hp 6 37 rfl rfl; refine ⟨fun _ => ?_, fun hg => absurd hg (by simp [guardOf, eg])⟩; clear eg; have e43 : ρ (.tmp 43) = _ := hp 12 43 rfl rfl; obtain ⟨⟨j0, j1, -, -, -⟩, j2, -⟩ := zB.below hb; have hcon := hρ.con; have hfn := hρ.fn; clear hρ hp; unfold OpRun; go_simp; exact hR _ _ (Below.refl _ _) rfl)
      case o14 => (intro ρ w1 R hρ hb hp hR; have eg : ρ (.tmp 37) = .bool false := hp 6 37 rfl rfl; refine ⟨fun _ => ?_, fun hg => absurd hg (by simp [guardOf, eg])⟩; clear eg; have e42 : ρ (.tmp 42) = _ := hp 11 42 rfl rfl; have e44 : ρ (.tmp 44) = _ := hp 13 44 rfl rfl; have hcon := hρ.con; have hfn := hρ.fn; clear hρ hp; unfold OpRun; go_simp; exact hR _ _ (Below.refl _ _) rfl)
      case o15 => (intro ρ w1 R hρ hb hp hR; have eg : ρ (.tmp 37) = .bool false := hp 6 37 rfl rfl; refine ⟨fun _ => ?_, fun hg => absurd hg (by simp [guardOf, eg])⟩; clear eg; have e45 : ρ (.tmp 45) = _ := hp 14 45 rfl rfl; have hcon := hρ.con; have hfn := hρ.fn; clear hρ hp; unfold OpRun; go_simp; exact hR _ _ (Below.refl _ _) rfl)
      case o16 => (intro ρ w1 R hρ hb hp hR; have eg : ρ (.tmp 46) = .bool false := hp 15 46 rfl rfl; exact ⟨fun hg => absurd hg (by simp [guardOf, eg]), fun _ => trivial⟩)
      case o17 => (intro ρ w1 R hρ hb hp hR; have eg : ρ (.tmp 46) = .bool false := hp 15 46 rfl rfl; exact ⟨fun hg => absurd hg (by simp [guardOf, eg]), fun _ => trivial⟩)
      case o18 => (intro ρ w1 R hρ hb hp hR; have eg : ρ (.tmp 46) = .bool false := hp 15 46 rfl rfl; exact ⟨fun hg => absurd hg (by simp [guardOf, eg]), fun _ => trivial⟩)
      case o19 => (intro ρ w1 R hρ hb hp hR; have eg : ρ (.tmp 46) = .bool false := hp 15 46 rfl rfl; exact ⟨fun hg => absurd hg (by simp [guardOf, eg]), fun _ => trivial⟩)
      case o20 => (intro ρ w1 R hρ hb hp hR; have eg : ρ (.tmp 46) = .bool false := hp 15 46 rfl rfl; exact ⟨fun hg => absurd hg (by simp [guardOf, eg]), fun _ => trivial⟩)
      case o21 => (intro ρ w1 R hρ hb hp hR; have eg : ρ (.tmp 37) = .bool false := hp 6 37 rfl rfl; refine ⟨fun _ => ?_, fun hg => absurd hg (by simp [guardOf, eg])⟩; clear eg; have e46 : ρ (.tmp 46) = _ := hp 15 46 rfl rfl; have f51 := hp 20 51 rfl rfl; have hcon := hρ.con; have hfn := hρ.fn; clear hρ hp; unfold OpRun; go_simp; exact hR _ _ (Below.refl _ _) rfl)
      case o22 => (intro ρ w1 R hρ hb hp hR; have eg : ρ (.tmp 37) = .bool false := hp 6 37 rfl rfl; refine ⟨fun _ => ?_, fun hg => absurd hg (by simp [guardOf, eg])⟩; clear eg; have e52 : ρ (.tmp 52) = _ := hp 21 52 rfl rfl; have hcon := hρ.con; have hfn := hρ.fn; clear hρ hp; unfold OpRun; go_simp; exact hR _ _ (Below.refl _ _) rfl)
      case o23 => (intro ρ w1 R hρ hb hp hR; have eg : ρ (.tmp 53) = .bool false := hp 22 53 rfl rfl; exact ⟨fun hg => absurd hg (by simp [guardOf, eg]), fun _ => trivial⟩)
      case o24 => (intro ρ w1 R hρ hb hp hR; have eg : ρ (.tmp 53) = .bool false := hp 22 53 rfl rfl; exact ⟨fun hg => absurd hg (by simp [guardOf, eg]), fun _ => trivial⟩)
      case o25 => (intro ρ w1 R hρ hb hp hR; have eg : ρ (.tmp 53) = .bool false := hp 22 53 rfl rfl; exact ⟨fun hg => absurd hg (by simp [guardOf, eg]), fun _ => trivial⟩)
      case o26 => (intro ρ w1 R hρ hb hp hR; have eg : ρ (.tmp 53) = .bool false := hp 22 53 rfl rfl; exact ⟨fun hg => absurd hg (by simp [guardOf, eg]), fun _ => trivial⟩)
      case o27 => (intro ρ w1 R hρ hb hp hR; have eg : ρ (.tmp 53) = .bool false := hp 22 53 rfl rfl; exact ⟨fun hg => absurd hg (by simp [guardOf, eg]), fun _ => trivial⟩)
      case o28 => (intro ρ w1 R hρ hb hp hR; have eg : ρ (.tmp 37) = .bool false := hp 6 37 rfl rfl; refine ⟨fun _ => ?_, fun hg => absurd hg (by simp [guardOf, eg])⟩; clear eg; have e53 : ρ (.tmp 53) = _ := hp 22 53 rfl rfl; have f58 := hp 27 58 rfl rfl; have hcon := hρ.con; have hfn := hρ.fn; clear hρ hp; unfold OpRun; go_simp; exact hR _ _ (Below.refl _ _) rfl)
      case o29 => (intro ρ w1 R hρ hb hp hR; have eg : ρ (.tmp 37) = .bool false := hp 6 37 rfl rfl; refine ⟨fun _ => ?_, fun hg => absurd hg (by simp [guardOf, eg])⟩; clear eg; have e40 : ρ (.tmp 40) = _ := hp 9 40 rfl rfl; have e59 : ρ (.tmp 59) = _ := hp 28 59 rfl rfl; have hcon := hρ.con; have hfn := hρ.fn; clear hρ hp; unfold OpRun; go_simp; exact hR _ _ (Below.refl _ _) rfl)
      case o30 => (refine StepOK.plain rfl ?_; intro ρ w1 R hρ hb hp hR; have e37 : ρ (.tmp 37) = _ := hp 6 37 rfl rfl; have e60 : ρ (.tmp 60) = _ := hp 29 60 rfl rfl; have hcon := hρ.con; have hfn := hρ.fn; clear hρ hp; unfold OpRun; go_simp; exact hR _ _ (Below.refl _ _) rfl)
      case after =>
        intro u wn hb hf
        have e61 : u 61 = _ := hf 30 61 (by omega) rfl
        clear hf
        simp only [putAll, Act.put, List.setIfInBounds_toArray, List.set_cons_zero, List.set_cons_succ, List.drop_succ_cons, List.drop_zero, List.drop_nil]
        rw [e61]
        go_wp2_with fail
        go_meet
        exact ⟨rfl, hb⟩
  case rest =>
  obtain ⟨rfl, hbx⟩ := hcut
  replace zA := zA.below hbx
  replace zB := zB.below hbx
  replace yb := below_trans yb hbx
  replace dvO := dvO.below hbx
  replace dvM := dvM.below hbx
  obtain ⟨W3, hW3⟩ : ∃ W, W = wc := ⟨_, rfl⟩
  subst hW3
  clear SM SE CK R1 HSB H0 H1 hbx
  go_upto_region 5 with fail
  go_cut [64] (fun s1 wx => s1 = .bool (decide (4 ≤ classOf x)) ∧ wx = W3)
  case first =>
    go_wp2_with (go_at_call 22; (with_reducible refine (CL.out _).mono ?_); rintro en w2 ⟨rfl, rfl⟩)
    go_meet
    exact ⟨rfl, rfl⟩
  case rest =>
  obtain ⟨rfl, rfl⟩ := hcut
  obtain ⟨W4, hW4⟩ : ∃ W, W = wc := ⟨_, rfl⟩
  subst hW4
  go_upto_if 64 with fail
  go_cut [] (fun wx => Below W4.heap.size W4 wx)
  case first =>
    cases hcl : decide (4 ≤ classOf x)
    · have hv : hasVal x = true := by rw [HHV.out, hcl]; rfl
      obtain ⟨e1, e2⟩ := HOF.out.1 hv
      have TL := hid (show ∀ u w v, VD w PDO v → QD 3 w (fv x) 1200 1100 u → Calls Tryd.prog 24 #[v, .int .i64 PEO, u] w fun e w' => e = .returned (.bool true) ∧ Below w.heap.size w w' from fun u w v k0 k1 => by
        obtain ⟨f1, f2⟩ := fv_bd x hx.1 hx.2
        have e3 : PDO = bdD (fv x) := by rw [e1]; unfold bdD; rw [f1]; rfl
        have e4 : PEO = bdE (fv x) := by rw [e2]; unfold bdE; rw [f1]; rfl
        rw [e4]; rw [e3] at k0
        exact told_any v u _ _ _ w k0 k1 (by omega) (by omega))
      obtain ⟨dO, eO, zO, hNO⟩ := dvO
      have HVO := hid (show ∀ w', Below W4.heap.size W4 w' → VD w' PDO (.agg #[.bool (decide (PDO.1 < 0)), .slice dO (limbs PDO.1.natAbs).length eO, .int .i64 PDO.2]) from fun w' hb => ⟨dO, eO, rfl, hNO.below hb⟩)
      clear hcl hv e1 e2 hNO dvM HOF HPS HME HLZ ZL1 LR BT CL HM HT zA zB HHV
      generalize fv x = FX at *
      go_upto_region 8 with fail
      refine wp_region_grow 6 [72, 73, 74, 75, 76, 77] [Fact.is (.agg #[.bool (decide (PDO.1 < 0)), .slice dO (limbs PDO.1.natAbs).length eO, .int .i64 PDO.2]), Fact.is (.int .i64 PEO), Fact.is (.int .u64 x), Fact.q 3 FX 1200 1100, Fact.is (.bool true), Fact.is (.bool false)] (by kernel_rfl) (by kernel_rfl) ⟨?o0, ?o1, ?o2, ?o3, ?o4, ?o5, trivial⟩ ?after
      case o0 => (refine StepOK.plain rfl ?_; intro ρ w1 R hρ hb hp hR; have e13 : ρ (.tmp 13) = .pointer (some ⟨gO, 0, none⟩) := hρ.tmp 13 rfl; obtain ⟨⟨j0, j1, -, -, -⟩, j2, -⟩ := zO.below hb; have hcon := hρ.con; have hfn := hρ.fn; clear hρ hp; unfold OpRun; go_simp; exact hR _ _ (Below.refl _ _) rfl)
      case o1 => (refine StepOK.plain rfl ?_; intro ρ w1 R hρ hb hp hR; have e14 : ρ (.tmp 14) = .int .i64 PEO := hρ.tmp 14 rfl; have hcon := hρ.con; have hfn := hρ.fn; clear hρ hp; unfold OpRun; go_simp; exact hR _ _ (Below.refl _ _) rfl)
      case o2 => (refine StepOK.plain rfl ?_; intro ρ w1 R hρ hb hp hR; have e0 : ρ (.tmp 0) = .int .u64 x := hρ.tmp 0 rfl; have hcon := hρ.con; have hfn := hρ.fn; clear hρ hp; unfold OpRun; go_simp; exact hR _ _ (Below.refl _ _) rfl)
      case o3 => (refine StepOK.plain rfl ?_; intro ρ w1 R hρ hb hp hR; have e74 : ρ (.tmp 74) = _ := hp 2 74 rfl rfl; have hcon := hρ.con; have hfn := hρ.fn; clear hρ hp; unfold OpRun; go_simp; (refine (QV.out _).mono ?_; rintro e wn ⟨v9, rfl, hv9, hbn⟩; exact ⟨_, rfl, hR _ _ hbn hv9⟩))
      case o4 => (refine StepOK.plain rfl ?_; intro ρ w1 R hρ hb hp hR; have e72 : ρ (.tmp 72) = _ := hp 0 72 rfl rfl; have e73 : ρ (.tmp 73) = _ := hp 1 73 rfl rfl; have f75 := hp 3 75 rfl rfl; have hcon := hρ.con; have hfn := hρ.fn; clear hρ hp; unfold OpRun; go_simp; (refine (TL.out _ _ _ (HVO.out _ hb) f75).mono ?_; rintro e wn ⟨rfl, hbn⟩; exact ⟨_, rfl, hR _ _ hbn rfl⟩))
      case o5 => (refine StepOK.plain rfl ?_; intro ρ w1 R hρ hb hp hR; have e76 : ρ (.tmp 76) = _ := hp 4 76 rfl rfl; have hcon := hρ.con; have hfn := hρ.fn; clear hρ hp; unfold OpRun; go_simp; exact hR _ _ (Below.refl _ _) rfl)
      case after =>
        intro u wn hb hf
        have e77 : u 77 = _ := hf 5 77 (by omega) rfl
        clear hf
        simp only [putAll, Act.put, List.setIfInBounds_toArray, List.set_cons_zero, List.set_cons_succ, List.drop_succ_cons, List.drop_zero, List.drop_nil]
        rw [e77]
        go_wp2_with fail
        go_meet
        exact hb
    · have hv : hasVal x = false := by rw [HHV.out, hcl]; rfl
      obtain ⟨e1, e2⟩ := HOF.out.2 hv
      rw [e1] at dvO
      subst e2
      obtain ⟨aO, cO, zO⟩ := dvO.none_form
      obtain ⟨⟨i0, i1, -, -, -⟩, i2, -⟩ := id zO
      clear hcl hv e1 dvO
      go_wp2_with (go_at_call 23; (refine (noDyad0_any _ _ _).mono ?_); rintro e w4 ⟨rfl, hb4⟩)
      go_meet
      exact hb4
  case rest =>
  replace zA := zA.below hcut
  replace zB := zB.below hcut
  replace yb := below_trans yb hcut
  replace dvM := dvM.below hcut
  obtain ⟨W5, hW5⟩ : ∃ W, W = wc := ⟨_, rfl⟩
  subst hW5
  clear hcut dvO HOF HHV QV CL
  go_upto_region 10 with fail
  go_cut [17] (fun s1 wx => s1 = .int .i64 LE ∧ Below W5.heap.size W5 wx)
  case first =>
    go_wp2_with (go_at_call 26; (with_reducible refine (LR.out _ _ ls_made (HM.out.below (below_trans yb (below_alloc _ _)))).mono ?_); rintro e w5 ⟨rfl, rfl⟩)
    go_meet
    exact ⟨rfl, by (repeat' (first | (with_reducible assumption) | (with_reducible exact Below.refl _ _) | (with_reducible refine below_al ?_ _) | (with_reducible refine below_drewN ?_ _) | (with_reducible refine Below.drew ?_) | (with_reducible refine Below.alloc ?_ ?_ _) | (with_reducible refine Below.setCell ?_ ?_ _) | (refine below_trans ?_ (by assumption)) | go_size))⟩
  case rest =>
  obtain ⟨rfl, hbx⟩ := hcut
  replace zA := zA.below hbx
  replace zB := zB.below hbx
  replace yb := below_trans yb hbx
  replace dvM := dvM.below hbx
  obtain ⟨W6, hW6⟩ : ∃ W, W = wc := ⟨_, rfl⟩
  subst hW6
  clear LR hbx
  go_upto_region 11 with fail
  go_cut [87] (fun s1 wx => s1 = .bool ((LE == 0) && !kb) ∧ wx = W6)
  case first =>
    by_cases hz : LE = 0
    · have hz2 : (LE == 0) = true := beq_iff_eq.2 hz
      clear hz
      go_wp2_with (go_at_call 27; (with_reducible refine (BT.out _).mono ?_); rintro e w4 ⟨rfl, rfl⟩)
      go_meet
      exact ⟨by rw [hz2, Bool.true_and], rfl⟩
    · have hz2 : (LE == 0) = false := beq_eq_false_iff_ne.2 hz
      clear hz
      go_wp2_with fail
      go_meet
      exact ⟨by rw [hz2]; rfl, rfl⟩
  case rest =>
  obtain ⟨rfl, rfl⟩ := hcut
  clear BT
  go_upto_if 87 with fail
  go_cut [17] (fun s1 wx => s1 = .int .i64 ME ∧ wx = wc)
  case first =>
    cases hb9 : ((LE == 0) && !kb)
    · have H5 := hid (show ME = LE by
        rw [HME.out]
        by_cases h : LE = 0
        · rw [if_pos h]
          rw [beq_iff_eq.2 h, Bool.true_and] at hb9
          rw [if_pos (by simpa using hb9)]; omega
        · rw [if_neg h])
      clear hb9
      go_wp2_with fail
      go_meet
      exact ⟨by rw [H5.out], rfl⟩
    · have H5 := hid (show ME = 1 by
        rw [Bool.and_eq_true, beq_iff_eq] at hb9
        rw [HME.out, if_pos hb9.1, if_neg (by have := hb9.2; simpa using this)])
      clear hb9
      go_wp2_with fail
      go_meet
      exact ⟨by rw [H5.out], rfl⟩
  case rest =>
  obtain ⟨rfl, rfl⟩ := hcut
  obtain ⟨W7, hW7⟩ : ∃ W, W = wc := ⟨_, rfl⟩
  subst hW7
  by_cases hz : ME = 0
  · have hLE : LE = 0 := by
      have h9 := HME.out
      by_cases h : LE = 0
      · exact h
      · rw [if_neg h, hz] at h9; exact absurd h9.symm h
    have hkb : kb = true := by
      have h9 := HME.out
      rw [if_pos hLE, hz] at h9
      cases kb
      · simp at h9
      · rfl
    have hk := of_decide_eq_true (HKB.out.trans hkb)
    obtain ⟨hM4, A, hA, hMA⟩ := HLZ.out hLE
    have QMK := hid (fun a c w h => qmake_any a c (sg ng (lval M : Int)) k A 10000 w h (by rw [sg_abs, Int.natAbs_natCast]; exact hMA) (by omega) (by omega) (by omega))
    obtain ⟨e1, e2⟩ := HPS.out.1 hz
    have TL := hid (show ∀ u w v, VD w PDM v → QD 3 w (nrm (sg ng (lval M : Int)) k) (A + 10000) 10000 u → Calls Tryd.prog 24 #[v, .int .i64 PEM, u] w fun e w' => e = .returned (.bool true) ∧ Below w.heap.size w w' from fun u w v k0 k1 => by
      rw [e2]; rw [e1] at k0
      exact told_any v u _ _ _ w k0 k1 (by omega) (by omega))
    have ZLM := hid (fun w h => ZL1.out w h (by omega))
    subst hz
    clear hLE hkb hM4 hMA HPS HME HLZ ZL1 HT zA zB HKB e1 e2 hk
    have hgm : gM < W7.heap.size := by obtain ⟨_, _, h, -⟩ := dvM; exact h.lt
    have hw7 := yb.size
    go_upto_region 15 with fail
    go_cut [18] (fun s1 wx => ∃ g, s1 = .pointer (some ⟨g, 0, none⟩) ∧ W7.heap.size ≤ g ∧ ZV 40 3 wx g (lval M : Int) ∧ Below W7.heap.size W7 wx)
    case first =>
      go_wp2_with (go_at_call 28; (with_reducible refine (ZLM.out _ (HM.out.below yb)).mono ?_); rintro en w2 ⟨az, cz, rfl, hz2, hb2⟩)
      go_meet
      exact ⟨_, rfl, hb2.size, ⟨az, cz, ZL.made rfl, hz2.below (below_alloc _ _)⟩, by (repeat' (first | (with_reducible assumption) | (with_reducible exact Below.refl _ _) | (with_reducible refine below_al ?_ _) | (with_reducible refine below_drewN ?_ _) | (with_reducible refine Below.drew ?_) | (with_reducible refine Below.alloc ?_ ?_ _) | (with_reducible refine Below.setCell ?_ ?_ _) | (refine below_trans ?_ (by assumption)) | go_size))⟩
    case rest =>
    obtain ⟨gZ, rfl, hgz, zV, hbx⟩ := hcut
    replace yb := below_trans yb hbx
    replace dvM := dvM.below hbx
    obtain ⟨W8, hW8⟩ : ∃ W, W = wc := ⟨_, rfl⟩
    subst hW8
    clear hbx ZLM HM
    obtain ⟨az, cz, zZ, hNz⟩ := zV
    obtain ⟨dM, eM, zM, hNM⟩ := dvM
    cases ng
    · go_upto_region 18 with fail
      have hb9 := Below.refl W8.heap.size W8
      obtain ⟨W9, hW9⟩ : ∃ W, W = W8 := ⟨_, rfl⟩
      rw [← hW9] at hb9 zZ hNz zM hNM yb ⊢
      clear hW9
      have HVM := hid (show ∀ w', Below W9.heap.size W9 w' → VD w' PDM (.agg #[.bool (decide (PDM.1 < 0)), .slice dM (limbs PDM.1.natAbs).length eM, .int .i64 PDM.2]) from fun w' hb => ⟨dM, eM, rfl, hNM.below hb⟩)
      have QMK2 := hid (show ∀ a c w, Nz 3 w a c (zl (lval M : Int)) → Calls Tryd.prog 30 #[.agg #[.bool (zneg (lval M : Int)), .slice a (zl (lval M : Int)).length c], .int .i64 k] w fun e w' => RetQD 3 w (nrm (sg false (lval M : Int)) k) (A + 10000) 10000 e w' from fun a c w h => QMK.out a c w h)
      clear QMK
      generalize nrm (sg false (lval M : Int)) k = R at *
      refine wp_region_grow 7 [102, 103, 104, 105, 106, 107, 12] [Fact.is (.agg #[.bool (decide (PDM.1 < 0)), .slice dM (limbs PDM.1.natAbs).length eM, .int .i64 PDM.2]), Fact.is (.int .i64 PEM), Fact.is (.agg #[.bool (zneg (lval M : Int)), .slice az (zl (lval M : Int)).length cz]), Fact.is (.int .i64 k), Fact.q 3 R (A + 10000) 10000, Fact.is (.bool true), Fact.is (.bool true)] (by kernel_rfl) (by kernel_rfl) ⟨?o0, ?o1, ?o2, ?o3, ?o4, ?o5, ?o6, trivial⟩ ?after
      case o0 => (refine StepOK.plain rfl ?_; intro ρ w1 R hρ hb hp hR; have e15 : ρ (.tmp 15) = .pointer (some ⟨gM, 0, none⟩) := hρ.tmp 15 rfl; obtain ⟨⟨j0, j1, -, -, -⟩, j2, -⟩ := zM.below hb; have hcon := hρ.con; have hfn := hρ.fn; clear hρ hp; unfold OpRun; go_simp; exact hR _ _ (Below.refl _ _) rfl)
      case o1 => (refine StepOK.plain rfl ?_; intro ρ w1 R hρ hb hp hR; have e16 : ρ (.tmp 16) = .int .i64 PEM := hρ.tmp 16 rfl; have hcon := hρ.con; have hfn := hρ.fn; clear hρ hp; unfold OpRun; go_simp; exact hR _ _ (Below.refl _ _) rfl)
      case o2 => (refine StepOK.plain rfl ?_; intro ρ w1 R hρ hb hp hR; have e18 : ρ (.tmp 18) = .pointer (some ⟨gZ, 0, none⟩) := hρ.tmp 18 rfl; obtain ⟨j0, j1, -, -, -⟩ := zZ.below hb; have hcon := hρ.con; have hfn := hρ.fn; clear hρ hp; unfold OpRun; go_simp; exact hR _ _ (Below.refl _ _) rfl)
      case o3 => (refine StepOK.plain rfl ?_; intro ρ w1 R hρ hb hp hR; have e5 : ρ (.tmp 5) = .int .i64 k := hρ.tmp 5 rfl; have hcon := hρ.con; have hfn := hρ.fn; clear hρ hp; unfold OpRun; go_simp; exact hR _ _ (Below.refl _ _) rfl)
      case o4 => (refine StepOK.plain rfl ?_; intro ρ w1 R hρ hb hp hR; have e104 : ρ (.tmp 104) = _ := hp 2 104 rfl rfl; have e105 : ρ (.tmp 105) = _ := hp 3 105 rfl rfl; have hcon := hρ.con; have hfn := hρ.fn; clear hρ hp; unfold OpRun; go_simp; (refine (QMK2.out _ _ _ (hNz.below hb)).mono ?_; rintro e wn ⟨v9, rfl, hv9, hbn⟩; exact ⟨_, rfl, hR _ _ hbn hv9⟩))
      case o5 => (refine StepOK.plain rfl ?_; intro ρ w1 R hρ hb hp hR; have e102 : ρ (.tmp 102) = _ := hp 0 102 rfl rfl; have e103 : ρ (.tmp 103) = _ := hp 1 103 rfl rfl; have f106 := hp 4 106 rfl rfl; have hcon := hρ.con; have hfn := hρ.fn; clear hρ hp; unfold OpRun; go_simp; (refine (TL.out _ _ _ (HVM.out _ hb) f106).mono ?_; rintro e wn ⟨rfl, hbn⟩; exact ⟨_, rfl, hR _ _ hbn rfl⟩))
      case o6 => (refine StepOK.plain rfl ?_; intro ρ w1 R hρ hb hp hR; have e107 : ρ (.tmp 107) = _ := hp 5 107 rfl rfl; have hcon := hρ.con; have hfn := hρ.fn; clear hρ hp; unfold OpRun; go_simp; exact hR _ _ (Below.refl _ _) rfl)
      case after =>
        intro u wn hb hf
        have e12 : u 12 = _ := hf 6 12 (by omega) rfl
        clear hf
        simp only [putAll, Act.put, List.setIfInBounds_toArray, List.set_cons_zero, List.set_cons_succ, List.drop_succ_cons, List.drop_zero, List.drop_nil]
        rw [e12]
        go_wp2_with fail
        refine bodyPost_ret (by simp [results, Tryd.results3, go_sem]; try rfl) rfl ?_
        exact ⟨rfl, below_trans yb hb⟩
    · have ZNG := hid (fun a c w h => zneg_any a c (lval M : Int) w h)
      obtain ⟨j0, j1, jf0, jf1, js⟩ := id zZ
      go_upto_region 18 with (go_at_call 29; (with_reducible refine (ZNG.out _ _ _ hNz).mono ?_); rintro en w2 ⟨an, cn, rfl, hn2, hb2⟩; have zZ2 := zZ.below hb2; obtain ⟨i0, i1, if0, if1, is2⟩ := id zZ2)
      have zZ3 := (zZ2.set0 (zneg (-(lval M : Int)))).set1 (.slice an (zl (-(lval M : Int))).length cn)
      have hNz3 := hn2.st2 is2 (by decide) (.bool (zneg (-(lval M : Int)))) (.slice an (zl (-(lval M : Int))).length cn)
      have hne : gM ≠ gZ := by omega
      have zM3 := ((zM.below hb2).farD ⟨gZ, 0, none⟩ (.bool (zneg (-(lval M : Int)))) hne).farD ⟨gZ, 1, none⟩ (.slice an (zl (-(lval M : Int))).length cn) hne
      have hNM3 := ((hNM.below hb2).setBool i0 (.bool (zneg (-(lval M : Int))))).setSlice (p := ⟨gZ, 1, none⟩) ((zZ2.set0 (zneg (-(lval M : Int)))).2.1) (.slice an (zl (-(lval M : Int))).length cn)
      have yb3 := ((below_trans yb hb2).setCell (p := ⟨gZ, 0, none⟩) (by show w.heap.size ≤ gZ; omega) (.bool (zneg (-(lval M : Int))))).setCell (p := ⟨gZ, 1, none⟩) (by show w.heap.size ≤ gZ; omega) (.slice an (zl (-(lval M : Int))).length cn)
      obtain ⟨W9, hW9⟩ : ∃ W, W = ((w2.setCell ⟨gZ, 0, none⟩ (.bool (zneg (-(lval M : Int))))).setCell ⟨gZ, 1, none⟩ (.slice an (zl (-(lval M : Int))).length cn)) := ⟨_, rfl⟩
      rw [← hW9] at zZ3 hNz3 zM3 hNM3 yb3 ⊢
      clear hW9 zZ hNz zM hNM yb zZ2 hn2 hb2 i0 i1 if0 if1 is2 j0 j1 jf0 jf1 js ZNG
      have zZ := zZ3
      have hNz := hNz3
      have zM := zM3
      have hNM := hNM3
      have yb := yb3
      obtain ⟨az, haz⟩ : ∃ a, a = an := ⟨_, rfl⟩
      subst haz
      obtain ⟨cz, hcz⟩ : ∃ a, a = cn := ⟨_, rfl⟩
      subst hcz
      have HVM := hid (show ∀ w', Below W9.heap.size W9 w' → VD w' PDM (.agg #[.bool (decide (PDM.1 < 0)), .slice dM (limbs PDM.1.natAbs).length eM, .int .i64 PDM.2]) from fun w' hb => ⟨dM, eM, rfl, hNM.below hb⟩)
      have QMK2 := hid (show ∀ a c w, Nz 3 w a c (zl (-(lval M : Int))) → Calls Tryd.prog 30 #[.agg #[.bool (zneg (-(lval M : Int))), .slice a (zl (-(lval M : Int))).length c], .int .i64 k] w fun e w' => RetQD 3 w (nrm (sg true (lval M : Int)) k) (A + 10000) 10000 e w' from fun a c w h => QMK.out a c w h)
      clear QMK
      generalize nrm (sg true (lval M : Int)) k = R at *
      refine wp_region_grow 7 [102, 103, 104, 105, 106, 107, 12] [Fact.is (.agg #[.bool (decide (PDM.1 < 0)), .slice dM (limbs PDM.1.natAbs).length eM, .int .i64 PDM.2]), Fact.is (.int .i64 PEM), Fact.is (.agg #[.bool (zneg (-(lval M : Int))), .slice az (zl (-(lval M : Int))).length cz]), Fact.is (.int .i64 k), Fact.q 3 R (A + 10000) 10000, Fact.is (.bool true), Fact.is (.bool true)] (by kernel_rfl) (by kernel_rfl) ⟨?o0, ?o1, ?o2, ?o3, ?o4, ?o5, ?o6, trivial⟩ ?after
      case o0 => (refine StepOK.plain rfl ?_; intro ρ w1 R hρ hb hp hR; have e15 : ρ (.tmp 15) = .pointer (some ⟨gM, 0, none⟩) := hρ.tmp 15 rfl; obtain ⟨⟨j0, j1, -, -, -⟩, j2, -⟩ := zM.below hb; have hcon := hρ.con; have hfn := hρ.fn; clear hρ hp; unfold OpRun; go_simp; exact hR _ _ (Below.refl _ _) rfl)
      case o1 => (refine StepOK.plain rfl ?_; intro ρ w1 R hρ hb hp hR; have e16 : ρ (.tmp 16) = .int .i64 PEM := hρ.tmp 16 rfl; have hcon := hρ.con; have hfn := hρ.fn; clear hρ hp; unfold OpRun; go_simp; exact hR _ _ (Below.refl _ _) rfl)
      case o2 => (refine StepOK.plain rfl ?_; intro ρ w1 R hρ hb hp hR; have e18 : ρ (.tmp 18) = .pointer (some ⟨gZ, 0, none⟩) := hρ.tmp 18 rfl; obtain ⟨j0, j1, -, -, -⟩ := zZ.below hb; have hcon := hρ.con; have hfn := hρ.fn; clear hρ hp; unfold OpRun; go_simp; exact hR _ _ (Below.refl _ _) rfl)
      case o3 => (refine StepOK.plain rfl ?_; intro ρ w1 R hρ hb hp hR; have e5 : ρ (.tmp 5) = .int .i64 k := hρ.tmp 5 rfl; have hcon := hρ.con; have hfn := hρ.fn; clear hρ hp; unfold OpRun; go_simp; exact hR _ _ (Below.refl _ _) rfl)
      case o4 => (refine StepOK.plain rfl ?_; intro ρ w1 R hρ hb hp hR; have e104 : ρ (.tmp 104) = _ := hp 2 104 rfl rfl; have e105 : ρ (.tmp 105) = _ := hp 3 105 rfl rfl; have hcon := hρ.con; have hfn := hρ.fn; clear hρ hp; unfold OpRun; go_simp; (refine (QMK2.out _ _ _ (hNz.below hb)).mono ?_; rintro e wn ⟨v9, rfl, hv9, hbn⟩; exact ⟨_, rfl, hR _ _ hbn hv9⟩))
      case o5 => (refine StepOK.plain rfl ?_; intro ρ w1 R hρ hb hp hR; have e102 : ρ (.tmp 102) = _ := hp 0 102 rfl rfl; have e103 : ρ (.tmp 103) = _ := hp 1 103 rfl rfl; have f106 := hp 4 106 rfl rfl; have hcon := hρ.con; have hfn := hρ.fn; clear hρ hp; unfold OpRun; go_simp; (refine (TL.out _ _ _ (HVM.out _ hb) f106).mono ?_; rintro e wn ⟨rfl, hbn⟩; exact ⟨_, rfl, hR _ _ hbn rfl⟩))
      case o6 => (refine StepOK.plain rfl ?_; intro ρ w1 R hρ hb hp hR; have e107 : ρ (.tmp 107) = _ := hp 5 107 rfl rfl; have hcon := hρ.con; have hfn := hρ.fn; clear hρ hp; unfold OpRun; go_simp; exact hR _ _ (Below.refl _ _) rfl)
      case after =>
        intro u wn hb hf
        have e12 : u 12 = _ := hf 6 12 (by omega) rfl
        clear hf
        simp only [putAll, Act.put, List.setIfInBounds_toArray, List.set_cons_zero, List.set_cons_succ, List.drop_succ_cons, List.drop_zero, List.drop_nil]
        rw [e12]
        go_wp2_with fail
        refine bodyPost_ret (by simp [results, Tryd.results3, go_sem]; try rfl) rfl ?_
        exact ⟨rfl, below_trans yb hb⟩
  · obtain ⟨e1, e2⟩ := HPS.out.2 hz
    rw [e1] at dvM
    subst e2
    have hz2 : (PEM == 0) = false := beq_eq_false_iff_ne.2 hz
    have hzz : (PEM == PEM) = true := beq_self_eq_true _
    obtain ⟨aM, cM, zM⟩ := dvM.none_form
    obtain ⟨⟨i0, i1, -, -, -⟩, i2, -⟩ := id zM
    clear hz e1 dvM HPS HME HLZ ZL1 HM HT zA zB
    go_wp2_with (go_at_call 23; (refine (noDyad0_any _ _ _).mono ?_); rintro e w4 ⟨rfl, hb4⟩)
    refine bodyPost_ret (by simp [results, Tryd.results3, go_sem]; try rfl) rfl ?_
    exact ⟨rfl, below_trans yb hb4⟩
end Go.Proofs.YteaakbeemhmciaaDoor
