/- prod.Dot: the sum of products of pairs, rounded once. -/
import Derived.Test.YteaakbeemhmciaaDoorPr1
import Derived.Test.YteaakbeemhmciaaDoorAn
import Derived.Test.YteaakbeemhmciaaDoorGt
set_option linter.unusedVariables false
set_option linter.unusedSimpArgs false
namespace Go.Ulp
open Go.RowKit
/-- the products of pairs over 2^2148, of the first i numbers -/
def dotI (L : List Nat) : Nat → Int
  | 0 => 0
  | i + 1 => if i % 2 = 1 then dotI L i + uV (lb L (i - 1)) * uV (lb L i) else dotI L i
theorem dot_two (L : List Nat) (i : Nat) (h : i % 2 = 0) : dotI L (i + 2) = dotI L i + uV (lb L i) * uV (lb L (i + 1)) := by
  rw [show dotI L (i + 2) = if (i + 1) % 2 = 1 then dotI L (i + 1) + uV (lb L (i + 1 - 1)) * uV (lb L (i + 1)) else dotI L (i + 1) from rfl, if_pos (by omega),
    show dotI L (i + 1) = if i % 2 = 1 then dotI L i + uV (lb L (i - 1)) * uV (lb L i) else dotI L i from rfl, if_neg (by omega)]
  rfl
theorem dot_one (L : List Nat) (i : Nat) (h : i % 2 = 1) : dotI L (i + 1) = dotI L i + uV (lb L (i - 1)) * uV (lb L i) := by
  rw [show dotI L (i + 1) = if i % 2 = 1 then dotI L i + uV (lb L (i - 1)) * uV (lb L i) else dotI L i from rfl, if_pos h]
theorem dot_none (L : List Nat) (i : Nat) (h : i % 2 = 0) : dotI L (i + 1) = dotI L i := by
  rw [show dotI L (i + 1) = if i % 2 = 1 then dotI L i + uV (lb L (i - 1)) * uV (lb L i) else dotI L i from rfl, if_neg (by omega)]
theorem dot_bd (B : Nat) (hB : 2098 ≤ B) (L : List Nat) (hL : ∀ j, lb L j < 18446744073709551616) : ∀ i, (dotI L i).natAbs < 2 ^ (B + B + i)
  | 0 => Nat.two_pow_pos _
  | i + 1 => by
    have h := dot_bd B hB L hL i
    by_cases e : i % 2 = 1
    · rw [dot_one L i e]
      have h2 := abs_mul_lt (uV_bd B hB (lb L (i - 1)) (lb_nonneg _ _) (hL _)) (uV_bd B hB (lb L i) (lb_nonneg _ _) (hL _))
      exact abs_add_lt h (abs_weak h2 (show B + B ≤ B + B + i by omega))
    · rw [dot_none L i (by omega)]
      exact Nat.lt_of_lt_of_le h (Nat.pow_le_pow_right (by omega) (by omega))
theorem dotD_bd (A : Nat) (hA : A = 4396) (L : List Nat) (hL : ∀ j, lb L j < 18446744073709551616) (i : Nat) (hi : i ≤ 200) : (nrm (dotI L i) (-2148)).1.natAbs < 2 ^ A ∧ -2148 ≤ (nrm (dotI L i) (-2148)).2 ∧ (nrm (dotI L i) (-2148)).2 ≤ 4000 := by
  have h := dot_bd 2098 (Nat.le_refl _) L hL i
  have h2 := Nat.lt_of_lt_of_le h (Nat.pow_le_pow_right (by omega) (show 2098 + 2098 + i ≤ A by omega))
  obtain ⟨k1, k2⟩ := nrm_bd (dotI L i) (-2148) A h2
  exact ⟨k1, by rcases k2 with k | k <;> omega, by rcases k2 with k | k <;> omega⟩
theorem addD_lev (x y g : Int) : addD (nrm x g) (nrm y g) = nrm (x + y) g := by
  have h := nrm_add x g y g g (.inl (by omega)) (.inl (by omega))
  rw [sc_self, sc_self] at h
  exact h.symm
theorem mul_uV {x y : Int} (hx : 0 ≤ x ∧ x < 18446744073709551616) (hy : 0 ≤ y ∧ y < 18446744073709551616) (a : classOf x < 4) (b : classOf y < 4) : mulD (fv x) (fv y) = nrm (uV x * uV y) (-2148) := by
  rw [fv_uV x hx.1 hx.2 a, fv_uV y hy.1 hy.2 b, ← nrm_mul]
  rfl
/-- what Dot answers -/
def dotE (L : List Nat) (mode : Int) : Int := if knownB mode = true then (if L.length % 2 = 1 then 3 else if 200 < L.length then 2 else sayNo L L.length) else 1
def dotX (L : List Nat) (mode : Int) : Int := if dotE L mode = 0 then rX (nrm (dotI L L.length) (-2148)) mode else 0
def dotC (L : List Nat) (mode : Int) : Bool := if dotE L mode = 0 then rC (nrm (dotI L L.length) (-2148)) mode else false
theorem dot_bad {L : List Nat} {mode e : Int} (h : dotE L mode = e) (he : e ≠ 0) : dotX L mode = 0 ∧ dotC L mode = false ∧ dotE L mode = e := by
  unfold dotX dotC; rw [if_neg (by rw [h]; exact he), if_neg (by rw [h]; exact he)]; exact ⟨rfl, rfl, h⟩
theorem dot_good {L : List Nat} {mode : Int} (h : dotE L mode = 0) : dotX L mode = rX (nrm (dotI L L.length) (-2148)) mode ∧ dotC L mode = rC (nrm (dotI L L.length) (-2148)) mode ∧ dotE L mode = 0 := by
  unfold dotX dotC; rw [if_pos h, if_pos h]; exact ⟨rfl, rfl, h⟩
end Go.Ulp
namespace Go.Proofs.YteaakbeemhmciaaDoor
open Go.RowKit Go.Ulp
set_option linter.unusedVariables false
set_option linter.unusedSimpArgs false
set_option maxHeartbeats 2000000
set_option maxRecDepth 100000
theorem dot1_any (x : Int) (h0 : 0 ≤ x) (h1 : x < 18446744073709551616) (w : World) :
    Calls Tryd.prog 124 #[.int .u64 x] w fun e w' => e = .returned (.bool (!hasVal x)) ∧ w = w' := by
  have HV := hid (fun w => hasValue_any x h0 h1 w)
  generalize hasVal x = b at *
  go_enter Tryd.func124, Tryd.ntmps124
  go_wp2_with (go_at_call 95; (with_reducible refine (HV.out _).mono ?_); rintro en w1 ⟨rfl, rfl⟩)
  go_ret
  exact ⟨rfl, rfl⟩
theorem indexD_any (ao : Option Addr) (cap : Nat) (L : List Nat) (w : World) (h : Ns .u64 w ao cap L) (hL : ∀ j, lb L j < 18446744073709551616) :
    Calls Tryd.prog 160 #[.slice ao L.length cap, .func (.func 124) #[] #[]] w (RetIx w L (fun x => !hasVal x)) := by
  obtain ⟨h1, h2, h3⟩ := h
  unfold maxLen at h2
  have TC := hid (fun j w => dot1_any (lb L j) (by unfold lb; omega) (hL j) w)
  clear hL
  go_enter Tryd.func160, Tryd.ntmps160
  go_wp2_with fail
  go_loopw [8] (fun i wr => ∃ i0 : Nat, i = .int .i64 (i0 : Int) ∧ i0 ≤ L.length ∧ (∀ j, j < i0 → hasVal (lb L j) = true) ∧ Below w.heap.size w wr) (fun i _ => (L.length - (intOf i).toNat))
  case atStart => exact ⟨0, rfl, by omega, fun j hj => by omega, Below.refl _ _⟩
  case round =>
    obtain ⟨j, rfl, hi1, hdr, hb⟩ := hrel
    have HD := hid hdr
    clear hdr
    by_cases hi : (j : Int) < (L.length : Int)
    · obtain ⟨b0, o0, rfl, hc0⟩ := h3 (by omega)
      have k0 := (hb.cell (p := ⟨b0, o0 + j, none⟩) (World.block_lt_of_cell? _ _ (hc0 j (by omega)))).trans (hc0 j (by omega))
      clear hc0 h3
      have TJ := hid (TC.out j)
      cases hv : hasVal (lb L j)
      · have HV := hid hv
        rw [hv] at TJ
        clear hv
        go_wp2_with (go_at_call 124; (with_reducible refine (TJ.out _).mono ?_); rintro en w1 ⟨rfl, rfl⟩)
        go_ret
        exact ⟨j, rfl, ⟨fun _ => ⟨j, by omega, by show (!hasVal (lb L j)) = true; rw [HV.out]; rfl⟩, fun _ => by omega⟩, by (repeat' (first | (with_reducible assumption) | (with_reducible exact Below.refl _ _) | (with_reducible refine below_al ?_ _) | (with_reducible refine below_drewN ?_ _) | (with_reducible refine Below.drew ?_) | (with_reducible refine Below.alloc ?_ ?_ _) | (with_reducible refine Below.setCell ?_ ?_ _) | (refine below_trans ?_ (by assumption)) | go_size))⟩
      · have HV := hid hv
        rw [hv] at TJ
        clear hv
        go_wp2_with (go_at_call 124; (with_reducible refine (TJ.out _).mono ?_); rintro en w1 ⟨rfl, rfl⟩)
        go_roundw
        case rel => exact ⟨j + 1, by go_num, by omega, fun i hi => by
          by_cases e : i = j
          · rw [e]; exact HV.out
          · exact HD.out i (by omega), by (repeat' (first | (with_reducible assumption) | (with_reducible exact Below.refl _ _) | (with_reducible refine below_al ?_ _) | (with_reducible refine below_drewN ?_ _) | (with_reducible refine Below.drew ?_) | (with_reducible refine Below.alloc ?_ ?_ _) | (with_reducible refine Below.setCell ?_ ?_ _) | (refine below_trans ?_ (by assumption)) | go_size))⟩
        case measure => simp [intOf]; omega
    · go_wp2_with fail
      go_ret
      refine ⟨-1, rfl, ⟨fun h => by omega, fun ⟨i, hi2, hp⟩ => ?_⟩, by (repeat' (first | (with_reducible assumption) | (with_reducible exact Below.refl _ _) | (with_reducible refine below_al ?_ _) | (with_reducible refine below_drewN ?_ _) | (with_reducible refine Below.drew ?_) | (with_reducible refine Below.alloc ?_ ?_ _) | (with_reducible refine Below.setCell ?_ ?_ _) | (refine below_trans ?_ (by assumption)) | go_size))⟩
      have h9 := HD.out i (by omega)
      have hp2 : (!hasVal (lb L i)) = true := hp
      rw [h9] at hp2; cases hp2
theorem containsD_any (ao : Option Addr) (cap : Nat) (L : List Nat) (w : World) (h : Ns .u64 w ao cap L) (hL : ∀ j, lb L j < 18446744073709551616) :
    Calls Tryd.prog 112 #[.slice ao L.length cap, .func (.func 124) #[] #[]] w fun e w' => ∃ b : Bool, e = .returned (.bool b) ∧ (b = true ↔ ∃ j, j < L.length ∧ hasVal (lb L j) = false) ∧ Below w.heap.size w w' := by
  have IX := hid (fun w h => indexD_any ao cap L w h hL)
  have H := hid h
  have hcap := h.1
  have hcap2 := h.2.1
  clear h
  go_enter Tryd.func112, Tryd.ntmps112
  go_wp2_with (go_at_call 160; (with_reducible refine (IX.out _ H.out).mono ?_); rintro en w1 ⟨i, rfl, hi, hb⟩; have HI := hid hi; clear hi)
  go_ret
  refine ⟨_, rfl, ?_, hb⟩
  rw [decide_eq_true_eq, HI.out]
  exact ⟨fun ⟨j, h1, h2⟩ => ⟨j, h1, by have h3 : (!hasVal (lb L j)) = true := h2; cases hh : hasVal (lb L j); rfl; rw [hh] at h3; cases h3⟩, fun ⟨j, h1, h2⟩ => ⟨j, h1, by show (!hasVal (lb L j)) = true; rw [h2]; rfl⟩⟩
theorem dot_any (ao : Option Addr) (cap : Nat) (L : List Nat) (mode : Int) (w : World) (h : Ns .u64 w ao cap L) (hL : ∀ j, lb L j < 18446744073709551616) (hT : Tab 0 w) :
    Calls Tryd.prog 48 #[.slice ao L.length cap, .int .i64 mode] w (RetX3 w (dotX L mode) (dotC L mode) (dotE L mode)) := by
  have KN := hid (fun w => known_any mode w)
  have hcap := h.1
  have hcap2 := h.2.1
  unfold maxLen at hcap2
  have HN := hid h
  have HT := hid hT
  have HL := hid hL
  clear h hT
  cases hk : knownB mode
  · obtain ⟨e1, e2, e3⟩ := dot_bad (L := L) (mode := mode) (e := 1) (by unfold dotE; rw [hk]; rfl) (by omega)
    rw [e1, e2, e3]
    rw [hk] at KN
    clear e1 e2 e3 hk hL
    go_enter Tryd.func48, Tryd.ntmps48
    go_wp2_with (go_at_call 108; (with_reducible refine (KN.out _).mono ?_); rintro en w1 ⟨rfl, rfl⟩)
    refine bodyPost_ret (by simp [results, Tryd.results48, go_sem]; try rfl) rfl ?_
    exact ⟨rfl, Below.refl _ _⟩
  rw [hk] at KN
  by_cases h2 : L.length % 2 = 1
  · obtain ⟨e1, e2, e3⟩ := dot_bad (L := L) (mode := mode) (e := 3) (by unfold dotE; rw [if_pos hk, if_pos h2]) (by omega)
    rw [e1, e2, e3]
    have hm : (L.length : Int) % 2 = 1 := by omega
    clear e1 e2 e3 hk hL h2
    go_enter Tryd.func48, Tryd.ntmps48
    go_wp2_with (go_at_call 108; (with_reducible refine (KN.out _).mono ?_); rintro en w1 ⟨rfl, rfl⟩)
    refine bodyPost_ret (by simp [results, Tryd.results48, go_sem]; try rfl) rfl ?_
    exact ⟨rfl, Below.refl _ _⟩
  have hm : (L.length : Int) % 2 = 0 := by omega
  by_cases h3 : 200 < L.length
  · obtain ⟨e1, e2, e3⟩ := dot_bad (L := L) (mode := mode) (e := 2) (by unfold dotE; rw [if_pos hk, if_neg h2, if_pos h3]) (by omega)
    rw [e1, e2, e3]
    have h3i : (200 : Int) < (L.length : Int) := by omega
    clear e1 e2 e3 hk hL h2 h3
    go_enter Tryd.func48, Tryd.ntmps48
    go_wp2_with (go_at_call 108; (with_reducible refine (KN.out _).mono ?_); rintro en w1 ⟨rfl, rfl⟩)
    refine bodyPost_ret (by simp [results, Tryd.results48, go_sem]; try rfl) rfl ?_
    exact ⟨rfl, Below.refl _ _⟩
  have h3i : ¬ (200 : Int) < (L.length : Int) := by omega
  have CF0 := hid (fun w h => containsD_any ao cap L w h hL)
  cases hs : anyTo noVal L L.length
  · have hv : ∀ j, j < L.length → hasVal (lb L j) = true := fun j hj => by
      have h9 : (!hasVal (lb L j)) = false := (anyTo_false noVal L L.length).1 hs j hj
      cases h8 : hasVal (lb L j)
      · rw [h8] at h9; cases h9
      · rfl
    obtain ⟨e1, e2, e3⟩ := dot_good (L := L) (mode := mode) (by unfold dotE; rw [if_pos hk, if_neg h2, if_neg h3]; unfold sayNo; rw [hs]; rfl)
    rw [e1, e2, e3]
    have CF := hid (show ∀ w, Ns .u64 w ao cap L → Calls Tryd.prog 112 #[.slice ao L.length cap, .func (.func 124) #[] #[]] w fun e w' => e = .returned (.bool false) ∧ Below w.heap.size w w' from fun w h => by
      refine (CF0.out w h).mono ?_
      rintro en w' ⟨bb, rfl, hb, hbl⟩
      have : bb = false := by
        cases bb
        · rfl
        · obtain ⟨j, j1, j2⟩ := hb.1 rfl
          rw [hv j j1] at j2; cases j2
      subst this
      exact ⟨rfl, hbl⟩)
    have HV := hid (fun j (hj : j < L.length) => (show classOf (lb L j) < 4 from of_decide_eq_true (by rw [hasVal_lt _ (lb_nonneg _ _) (hL j)]; exact hv j hj)))
    have EX := hid (fun i j w t => exact_any (lb L i) (lb L j) ⟨lb_nonneg _ _, hL i⟩ ⟨lb_nonneg _ _, hL j⟩ w t)
    have MU := hid (fun i j => mul_uV (x := lb L i) (y := lb L j) ⟨lb_nonneg _ _, hL i⟩ ⟨lb_nonneg _ _, hL j⟩)
    have MB := hid (fun i j => mulD_fv (lb L i) (lb L j) ⟨lb_nonneg _ _, hL i⟩ ⟨lb_nonneg _ _, hL j⟩)
    obtain ⟨A, hA⟩ : ∃ A : Nat, A = 4396 := ⟨_, rfl⟩
    have SB := hid (fun i hi => dotD_bd A hA L hL i hi)
    obtain ⟨K, hK⟩ : ∃ K : Nat, K = 200 := ⟨_, rfl⟩
    have LB := hid (fun (M : Nat) (h : M < 2 ^ A) => (limbs_le_bits M K).2 (Nat.lt_of_lt_of_le h (Nat.pow_le_pow_right (by omega) (by omega))))
    clear e1 e2 e3 hk hL hs hv CF0 hA
    go_enter Tryd.func48, Tryd.ntmps48
    go_upto_region 9 with (first
      | (go_at_call 108; (with_reducible refine (KN.out _).mono ?_); rintro en w1 ⟨rfl, rfl⟩)
      | (go_at_call 112; (with_reducible refine (CF.out _ HN.out).mono ?_); rintro en w1 ⟨rfl, hb1⟩))
    have HN1 := hid (HN.out.below (below_trans hb1 (below_alloc w1 (.cells #[.bool false, .slice none 0 0, .int .i64 0] 25))))
    have yb0 := below_trans hb1 (below_alloc w1 (.cells #[.bool false, .slice none 0 0, .int .i64 0] 25))
    have zR0 : DV 25 (w1.alloc (.cells #[.bool false, .slice none 0 0, .int .i64 0] 25)) w1.heap.size (nrm 0 (-2148)) := ⟨none, 0, QL.made rfl, Ns.nil⟩
    have hgw : w.heap.size ≤ w1.heap.size := hb1.size
    go_wp2_with fail
    obtain ⟨W1, hW1⟩ : ∃ W, W = w1.alloc (.cells #[.bool false, .slice none 0 0, .int .i64 0] 25) := ⟨_, rfl⟩
    obtain ⟨gD, hgD⟩ : ∃ g, g = w1.heap.size := ⟨_, rfl⟩
    rw [← hW1, ← hgD] at zR0 ⊢
    rw [← hW1] at HN1 yb0
    rw [← hgD] at hgw
    clear hW1 hgD hb1 KN CF hm
    go_loopw [8] (fun s8 wr => ∃ i : Nat, s8 = .int .i64 (i : Int) ∧ i ≤ L.length ∧ i % 2 = 0 ∧ DV 25 wr gD (nrm (dotI L i) (-2148)) ∧ Below w.heap.size w wr) (fun s8 _ => (L.length - (intOf s8).toNat))
    case atStart => exact ⟨0, rfl, by omega, rfl, zR0, yb0⟩
    case round =>
      obtain ⟨i, rfl, hi, hi2, hDV, yb⟩ := hrel
      have HDV := hid hDV
      clear hDV zR0 yb0 HN1
      by_cases hlt : (i : Int) < (L.length : Int)
      · obtain ⟨b0, o0, rfl, hc0⟩ := HN.out.2.2 (by omega)
        have k0 := (yb.cell (p := ⟨b0, o0 + i, none⟩) (World.block_lt_of_cell? _ _ (hc0 i (by omega)))).trans (hc0 i (by omega))
        have k1 := (yb.cell (p := ⟨b0, o0 + (i + 1), none⟩) (World.block_lt_of_cell? _ _ (hc0 (i + 1) (by omega)))).trans (hc0 (i + 1) (by omega))
        have E0 := hid (EX.out i (i + 1))
        have hmu := MU.out i (i + 1) (HV.out i (by omega)) (HV.out (i + 1) (by omega))
        have hmb := MB.out i (i + 1)
        have hdt := dot_two L i hi2
        obtain ⟨x, hx⟩ : ∃ x, x = lb L i := ⟨_, rfl⟩
        obtain ⟨y, hy⟩ : ∃ y, y = lb L (i + 1) := ⟨_, rfl⟩
        rw [← hx] at k0 hdt hmu hmb E0
        rw [← hy] at k1 hdt hmu hmb E0
        have hbd := SB.out i (by omega)
        have l1 := LB.out _ hbd.1
        have l2 := limbs_short 106 4 (by omega) _ hmb.1
        have PL := hid (fun v u w h0 h1 t => plusD_any v u (nrm (dotI L i) (-2148)) (mulD (fv x) (fv y)) w h0 h1 (by omega) (by omega) ⟨by omega, by omega⟩ ⟨by omega, by omega⟩ t)
        have HSD := hid (show addD (nrm (dotI L i) (-2148)) (mulD (fv x) (fv y)) = nrm (dotI L (i + 2)) (-2148) by rw [hmu, addD_lev, hdt])
        rw [HSD.out] at PL
        obtain ⟨D2, hD2⟩ : ∃ D2, D2 = nrm (dotI L (i + 2)) (-2148) := ⟨_, rfl⟩
        rw [← hD2] at PL
        have HD2 := hid hD2
        clear hD2
        obtain ⟨am, cm, zD, hND⟩ := HDV.out
        have HVD := hid (fun w' (hb : Below wr.heap.size wr w') => (show VD w' (nrm (dotI L i) (-2148)) (.agg #[.bool (decide ((nrm (dotI L i) (-2148)).1 < 0)), .slice am (limbs (nrm (dotI L i) (-2148)).1.natAbs).length cm, .int .i64 (nrm (dotI L i) (-2148)).2]) from ⟨am, cm, rfl, hND.below hb⟩))
        generalize nrm (dotI L i) (-2148) = D at *
        generalize mulD (fv x) (fv y) = M at *
        have K0 := hid k0
        have K1 := hid k1
        have hadd : IntKind.i64.wrap ((i : Int) + 1) = (i : Int) + 1 := IntWalk.i64_in _ (by omega)
        have hi1 : (i : Int) + 1 < (L.length : Int) := by omega
        have hin : ((i : Int) + 1).toNat = i + 1 := by omega
        clear hx hy hc0 hmu hmb hdt hbd l1 l2 HDV hND HV EX MU MB SB LB HSD HL
        go_upto_region 13 with fail
        refine wp_region_grow 12 [33, 34, 35, 36, 37, 38, 39, 40, 41, 42, 43, 44] [Fact.is (.agg #[.bool (decide (D.1 < 0)), .slice am (limbs D.1.natAbs).length cm, .int .i64 D.2]), Fact.is (.slice (some ⟨b0, o0, none⟩) L.length cap), Fact.is (.int .i64 (i : Int)), Fact.is (.pointer (some ⟨b0, o0 + i, none⟩)), Fact.is (.int .u64 x), Fact.is (.slice (some ⟨b0, o0, none⟩) L.length cap), Fact.is (.int .i64 (i : Int)), Fact.is (.int .i64 ((i : Int) + 1)), Fact.is (.pointer (some ⟨b0, o0 + (i + 1), none⟩)), Fact.is (.int .u64 y), Fact.vd M, Fact.vd D2] (by kernel_rfl) (by kernel_rfl) ⟨?o0, ?o1, ?o2, ?o3, ?o4, ?o5, ?o6, ?o7, ?o8, ?o9, ?o10, ?o11, trivial⟩ ?after
        case o0 => (refine StepOK.plain rfl ?_; intro ρ w1 R hρ hb hp hR; have e7 : ρ (.tmp 7) = .pointer (some ⟨gD, 0, none⟩) := hρ.tmp 7 rfl; obtain ⟨⟨j0, j1, -, -, -⟩, j2, -⟩ := zD.below hb; have hcon := hρ.con; have hfn := hρ.fn; clear hρ hp; unfold OpRun; go_simp; exact hR _ _ (Below.refl _ _) rfl)
        case o1 => (refine StepOK.plain rfl ?_; intro ρ w1 R hρ hb hp hR; have e0 : ρ (.tmp 0) = .slice (some ⟨b0, o0, none⟩) L.length cap := hρ.tmp 0 rfl; have hcon := hρ.con; have hfn := hρ.fn; clear hρ hp; unfold OpRun; go_simp; exact hR _ _ (Below.refl _ _) rfl)
        case o2 => (refine StepOK.plain rfl ?_; intro ρ w1 R hρ hb hp hR; have e8 : ρ (.tmp 8) = .int .i64 (i : Int) := hρ.tmp 8 rfl; have hcon := hρ.con; have hfn := hρ.fn; clear hρ hp; unfold OpRun; go_simp; exact hR _ _ (Below.refl _ _) rfl)
        case o3 => (refine StepOK.plain rfl ?_; intro ρ w1 R hρ hb hp hR; have e34 : ρ (.tmp 34) = _ := hp 1 34 rfl rfl; have e35 : ρ (.tmp 35) = _ := hp 2 35 rfl rfl; have hcon := hρ.con; have hfn := hρ.fn; clear hρ hp; unfold OpRun; go_simp; exact hR _ _ (Below.refl _ _) rfl)
        case o4 => (refine StepOK.plain rfl ?_; intro ρ w1 R hρ hb hp hR; have e36 : ρ (.tmp 36) = _ := hp 3 36 rfl rfl; have q0 := (hb.cell (p := ⟨b0, o0 + i, none⟩) (World.block_lt_of_cell? _ _ K0.out)).trans K0.out; have hcon := hρ.con; have hfn := hρ.fn; clear hρ hp; unfold OpRun; go_simp; exact hR _ _ (Below.refl _ _) rfl)
        case o5 => (refine StepOK.plain rfl ?_; intro ρ w1 R hρ hb hp hR; have e0 : ρ (.tmp 0) = .slice (some ⟨b0, o0, none⟩) L.length cap := hρ.tmp 0 rfl; have hcon := hρ.con; have hfn := hρ.fn; clear hρ hp; unfold OpRun; go_simp; exact hR _ _ (Below.refl _ _) rfl)
        case o6 => (refine StepOK.plain rfl ?_; intro ρ w1 R hρ hb hp hR; have e8 : ρ (.tmp 8) = .int .i64 (i : Int) := hρ.tmp 8 rfl; have hcon := hρ.con; have hfn := hρ.fn; clear hρ hp; unfold OpRun; go_simp; exact hR _ _ (Below.refl _ _) rfl)
        case o7 => (refine StepOK.plain rfl ?_; intro ρ w1 R hρ hb hp hR; have e39 : ρ (.tmp 39) = _ := hp 6 39 rfl rfl; have hcon := hρ.con; have hfn := hρ.fn; clear hρ hp; unfold OpRun; go_simp; exact hR _ _ (Below.refl _ _) rfl)
        case o8 => (refine StepOK.plain rfl ?_; intro ρ w1 R hρ hb hp hR; have e38 : ρ (.tmp 38) = _ := hp 5 38 rfl rfl; have e40 : ρ (.tmp 40) = _ := hp 7 40 rfl rfl; have hcon := hρ.con; have hfn := hρ.fn; clear hρ hp; unfold OpRun; go_simp; exact hR _ _ (Below.refl _ _) rfl)
        case o9 => (refine StepOK.plain rfl ?_; intro ρ w1 R hρ hb hp hR; have e41 : ρ (.tmp 41) = _ := hp 8 41 rfl rfl; have q1 := (hb.cell (p := ⟨b0, o0 + (i + 1), none⟩) (World.block_lt_of_cell? _ _ K1.out)).trans K1.out; have hcon := hρ.con; have hfn := hρ.fn; clear hρ hp; unfold OpRun; go_simp; exact hR _ _ (Below.refl _ _) rfl)
        case o10 => (refine StepOK.plain rfl ?_; intro ρ w1 R hρ hb hp hR; have e37 : ρ (.tmp 37) = _ := hp 4 37 rfl rfl; have e42 : ρ (.tmp 42) = _ := hp 9 42 rfl rfl; have hcon := hρ.con; have hfn := hρ.fn; clear hρ hp; unfold OpRun; go_simp; (refine (E0.out _ (HT.out.below (below_trans yb hb))).mono ?_; rintro e wn ⟨v9, rfl, hv9, hbn⟩; exact ⟨_, rfl, hR _ _ hbn hv9⟩))
        case o11 => (refine StepOK.plain rfl ?_; intro ρ w1 R hρ hb hp hR; have e33 : ρ (.tmp 33) = _ := hp 0 33 rfl rfl; have f43 := hp 10 43 rfl rfl; have hcon := hρ.con; have hfn := hρ.fn; clear hρ hp; unfold OpRun; go_simp; (refine (PL.out _ _ _ (HVD.out _ hb) f43 (HT.out.below (below_trans yb hb))).mono ?_; rintro e wn ⟨v9, rfl, hv9, hbn⟩; exact ⟨_, rfl, hR _ _ hbn hv9⟩))
        case after =>
          intro u wn hb hf
          have f44 := hf 11 44 (by omega) rfl
          clear hf
          simp only [putAll, Act.put, List.setIfInBounds_toArray, List.set_cons_zero, List.set_cons_succ, List.drop_succ_cons, List.drop_zero, List.drop_nil]
          obtain ⟨am2, cm2, e44, hN2⟩ := f44
          rw [e44]
          have zD2 := zD.below hb
          have yb2 := below_trans yb hb
          obtain ⟨⟨j0, j1, g0, g1, hs2⟩, j2, g2⟩ := id zD2
          clear e44 hin
          go_wp2_with fail
          go_roundw
          case rel => exact ⟨i + 2, by go_num, by omega, by omega, by rw [← HD2.out]; exact DV.put zD2 hN2 (by intro x h; cases h), Go.Ulp.Below.put3 yb2 hgw _ _ _⟩
          case measure => simp [intOf]; omega
      · have hie : i = L.length := by omega
        have hbd := SB.out L.length (by omega)
        have l1 := LB.out _ hbd.1
        have NU := hid (fun v w h => numberD_any v (nrm (dotI L L.length) (-2148)) mode w h (by omega) ⟨by omega, by omega⟩ (nrm_isN _ _))
        rw [hie] at HDV
        generalize nrm (dotI L L.length) (-2148) = D at *
        obtain ⟨am, cm, zD, hND⟩ := HDV.out
        have HND := hid hND
        obtain ⟨⟨j0, j1, -, -, -⟩, j2, -⟩ := id zD
        clear hbd l1 HDV hND HV EX MU MB SB LB HL hie
        go_wp2_with (go_at_call 126; (with_reducible refine (NU.out _ _ (VD.mk HND.out)).mono ?_); rintro en w3 ⟨rfl, hb3⟩)
        refine bodyPost_ret (by simp [results, Tryd.results48, go_sem]; try rfl) rfl ?_
        exact ⟨rfl, below_trans yb hb3⟩
  · obtain ⟨e1, e2, e3⟩ := dot_bad (L := L) (mode := mode) (e := 4) (by unfold dotE; rw [if_pos hk, if_neg h2, if_neg h3]; unfold sayNo; rw [hs]; rfl) (by omega)
    rw [e1, e2, e3]
    have CF := hid (show ∀ w, Ns .u64 w ao cap L → Calls Tryd.prog 112 #[.slice ao L.length cap, .func (.func 124) #[] #[]] w fun e w' => e = .returned (.bool true) ∧ Below w.heap.size w w' from fun w h => by
      refine (CF0.out w h).mono ?_
      rintro en w' ⟨bb, rfl, hb, hbl⟩
      obtain ⟨j, j1, j2⟩ := (anyTo_iff noVal L L.length).1 hs
      have : bb = true := hb.2 ⟨j, j1, by have j3 : (!hasVal (lb L j)) = true := j2; cases j4 : hasVal (lb L j); rfl; rw [j4] at j3; cases j3⟩
      subst this
      exact ⟨rfl, hbl⟩)
    clear e1 e2 e3 hk hL hs CF0 h2 h3
    go_enter Tryd.func48, Tryd.ntmps48
    go_wp2_with (first
      | (go_at_call 108; (with_reducible refine (KN.out _).mono ?_); rintro en w1 ⟨rfl, rfl⟩)
      | (go_at_call 112; (with_reducible refine (CF.out _ HN.out).mono ?_); rintro en w1 ⟨rfl, hb1⟩))
    refine bodyPost_ret (by simp [results, Tryd.results48, go_sem]; try rfl) rfl ?_
    exact ⟨rfl, hb1⟩
end Go.Proofs.YteaakbeemhmciaaDoor
