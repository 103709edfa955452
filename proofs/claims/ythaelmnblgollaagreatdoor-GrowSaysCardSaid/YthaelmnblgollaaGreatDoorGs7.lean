/- Expansions: grow.Join. -/
import Derived.Test.YthaelmnblgollaaGreatDoorGs5
set_option linter.unusedVariables false
set_option linter.unusedSimpArgs false
namespace Go.Ulp
open Go.RowKit
/-- what Grown answers -/
def grwA (L : List Nat) (x : Nat) : List Nat := if grF L x L.length = true then [] else gwL L x
/-- two expansions: the list as it grows, and the first error -/
def jnL (A B : List Nat) : Nat → List Nat
  | 0 => A
  | i + 1 => gwA (jnL A B i) (B.getD i 0)
def jnR (A B : List Nat) : Nat → Int
  | 0 => 0
  | i + 1 => if jnR A B i = 0 then gwE (jnL A B i) (B.getD i 0) else jnR A B i
def jnE (A B : List Nat) : Int := if prE A = 0 then (if prE B = 0 then (if jnR A B B.length = 0 then (if 60 < (jnL A B B.length).length then 2 else 0) else jnR A B B.length) else prE B) else prE A
def jnA (A B : List Nat) : List Nat := if jnE A B = 0 then jnL A B B.length else []
theorem gwA_lt (L : List Nat) (x : Nat) (hx : x < 18446744073709551616) : AllLt 18446744073709551616 (gwA L x) := by
  unfold gwA
  split
  · exact gwL_lt L x hx
  · exact fun d h => by cases h
theorem jnL_lt (A B : List Nat) (hA : AllLt 18446744073709551616 A) (hB : ∀ j, lb B j < 18446744073709551616) : ∀ i, AllLt 18446744073709551616 (jnL A B i)
  | 0 => hA
  | i + 1 => gwA_lt _ _ (by have := hB i; unfold lb at this; omega)
theorem lb_of_lt {L : List Nat} (h : AllLt 18446744073709551616 L) (j : Nat) : lb L j < 18446744073709551616 := by
  have := h.getD (by omega) j
  unfold lb
  omega
theorem allLt_of {L : List Nat} (h : ∀ j, lb L j < 18446744073709551616) : AllLt 18446744073709551616 L := by
  intro d hd
  obtain ⟨j, hj, rfl⟩ := List.getElem_of_mem hd
  have := h j
  unfold lb at this
  rw [List.getD_eq_getElem?_getD, List.getElem?_eq_getElem hj] at this
  simp at this
  omega
theorem jnR_mono (A B : List Nat) (i : Nat) (h : jnR A B i ≠ 0) : ∀ j, i ≤ j → jnR A B j = jnR A B i := by
  intro j hj
  obtain ⟨k, rfl⟩ : ∃ k, j = i + k := ⟨j - i, by omega⟩
  clear hj
  induction k with
  | zero => rfl
  | succ k ih =>
    show (if jnR A B (i + k) = 0 then _ else jnR A B (i + k)) = _
    rw [ih, if_neg h]
theorem jnL_len (A B : List Nat) (i : Nat) (hA : prE A = 0) (h : jnR A B i = 0) : (jnL A B i).length ≤ 61 := by
  cases i with
  | zero => have := (prE_zero' A hA).1; show A.length ≤ 61; omega
  | succ i =>
    have h2 : (if jnR A B i = 0 then gwE (jnL A B i) (B.getD i 0) else jnR A B i) = 0 := h
    by_cases h3 : jnR A B i = 0
    · rw [if_pos h3] at h2
      have h4 : prE (jnL A B i) = 0 := by
        unfold gwE at h2
        by_cases h5 : prE (jnL A B i) = 0
        · exact h5
        · rw [if_neg h5] at h2; exact absurd h2 h5
      have h5 := (prE_zero' _ h4).1
      show (gwA (jnL A B i) (B.getD i 0)).length ≤ 61
      unfold gwA
      rw [if_pos h2]
      have := gwL_len (jnL A B i) (B.getD i 0)
      omega
    · rw [if_neg h3] at h2; exact absurd h2 h3
end Go.Ulp
namespace Go.Proofs.YthaelmnblgollaaGreatDoor
open Go.RowKit Go.Ulp
set_option linter.unusedVariables false
set_option linter.unusedSimpArgs false
set_option maxHeartbeats 2000000
set_option maxRecDepth 100000
theorem grown_any (ao : Option Addr) (cap : Nat) (L : List Nat) (x : Nat) (w : World) (h : Ns .u64 w ao cap L) (hL : ∀ j, lb L j < 18446744073709551616) (hx : x < 18446744073709551616) (hlen : L.length ≤ 1000) :
    Calls Tryz.prog 20 #[.slice ao L.length cap, .int .u64 (x : Int)] w fun e w' => ∃ a c, e = .returned (.tuple #[.slice a (grwA L x).length c, .bool (!grF L x L.length)]) ∧ Ns .u64 w' a c (grwA L x) ∧ Below w.heap.size w w' := by
  have HN := hid h
  have hcap := h.1
  have hcap2 := h.2.1
  unfold maxLen at hcap2
  have QL := hid (grQ_lt L x hx)
  have FM := hid (fun i h => grF_mono L x i h L.length)
  have SP := hid (fun (a b : Nat) ha hb w => sumParts_any a b ha hb w)
  have VH := hid (fun (q : Nat) (hq : q < 18446744073709551616) w => rHasValue_any (q : Int) (by omega) (by omega) w)
  have ZH := hid (show ∀ (q : Nat) (hq : q < 18446744073709551616) w, Calls Tryz.prog 54 #[.int .u64 (q : Int)] w fun e w' => e = .returned (.bool (zN q)) ∧ w = w' from fun q hq w => rIsZero_any (q : Int) (by omega) (by omega) w)
  have HLL := hid hL
  have OL := hid (grO_len L x)
  have hA1 := hid (show grwA L x = if grF L x L.length = true then [] else gwL L x from rfl)
  clear h hL
  go_enter Tryz.func20, Tryz.ntmps20
  go_wp2_with fail
  go_loopw [1, 6, 8, 9, 10, 11, 14] (fun s1 s6 _ _ _ _ s14 wr => ∃ i : Nat, s14 = .int .i64 (i : Int) ∧ i ≤ L.length ∧ s1 = .int .u64 ((grQ L x i : Nat) : Int) ∧ grF L x i = false ∧ Own w.heap.size 23 .u64 wr s6 (grO L x i) ∧ Below w.heap.size w wr) (fun _ _ _ _ _ _ i _ => (L.length - (intOf i).toNat))
  case atStart => exact ⟨0, rfl, by omega, rfl, rfl, Own.nil, Below.refl _ _⟩
  case round =>
    obtain ⟨i, rfl, hi, rfl, hF, hG, yr⟩ := hrel
    have HF := hid hF
    have hql := QL.out i
    clear hF
    by_cases hi2 : (i : Int) < (L.length : Int)
    · obtain ⟨b0, o0, rfl, hc0⟩ := HN.out.2.2 (by omega)
      have k0 := (yr.cell (p := ⟨b0, o0 + i, none⟩) (World.block_lt_of_cell? _ _ (hc0 i (by omega)))).trans (hc0 i (by omega))
      have hyl : L.getD i 0 < 18446744073709551616 := by have := HLL.out i; unfold lb at this; omega
      have HQ1 := hid (show grQ L x (i + 1) = plusN (grQ L x i) (L.getD i 0) from rfl)
      have HH1 := hid (show grH L x i = restN (grQ L x i) (L.getD i 0) from rfl)
      have HF1 := hid (show grF L x (i + 1) = (grF L x i || !hasVal ((grQ L x (i + 1) : Nat) : Int)) from rfl)
      have HO1 := hid (show grO L x (i + 1) = if zN (grH L x i) = true then grO L x i else grO L x i ++ [grH L x i] from rfl)
      have hhl := grH_lt L x i
      have hq1l := QL.out (i + 1)
      have TS1 := hid (SP.out (grQ L x i) (L.getD i 0) hql hyl)
      rw [← HQ1.out, ← HH1.out] at TS1
      have hol := OL.out i
      have FM1 := hid (fun h => FM.out (i + 1) h (by omega))
      have hk1 : wr.cell? ⟨b0, o0 + i, none⟩ = some (.int .u64 ((L.getD i 0 : Nat) : Int)) := k0
      obtain ⟨y, hy⟩ : ∃ y, y = L.getD i 0 := ⟨_, rfl⟩
      rw [← hy] at hk1 TS1 hyl
      obtain ⟨q, hq⟩ : ∃ q, q = grQ L x i := ⟨_, rfl⟩
      rw [← hq] at TS1 ⊢
      obtain ⟨q1, hq1⟩ : ∃ q, q = grQ L x (i + 1) := ⟨_, rfl⟩
      have HQN := hid hq1
      rw [← hq1] at TS1 HF1 hq1l
      obtain ⟨r1, hr1⟩ : ∃ q, q = grH L x i := ⟨_, rfl⟩
      rw [← hr1] at TS1 HO1 hhl
      obtain ⟨O, hO⟩ : ∃ q, q = grO L x i := ⟨_, rfl⟩
      rw [← hO] at hG HO1 hol
      have V1 := hid (VH.out q1 hq1l)
      have Z1 := hid (ZH.out r1 hhl)
      generalize fastN (grQ L x i) (L.getD i 0) = fr at *
      clear k0 hc0 hy hq hq1 hr1 hO HQ1 HH1 QL SP HLL OL FM VH ZH
      cases hh : hasVal (q1 : Int)
      · have HE := hid (show grF L x L.length = true from FM1.out (by rw [HF1.out, hh]; simp))
        have HA := hid (show grwA L x = [] by rw [hA1.out, HE.out]; rfl)
        rw [hh] at V1
        clear HF1 FM1 hA1 HO1 hh hG
        go_wp2_with (first
          | (go_at_call 84; (with_reducible refine (TS1.out _).mono ?_); rintro en w2 ⟨rfl, hb2⟩)
          | (go_at_call 19; (with_reducible refine (V1.out _).mono ?_); rintro en w3 ⟨rfl, rfl⟩))
        go_ret2
        exact ⟨none, 0, by rw [HE.out, HA.out]; rfl, by rw [HA.out]; exact Ns.nil, below_trans yr hb2⟩
      · have HF2 := hid (show grF L x (i + 1) = false by rw [HF1.out, HF.out, hh]; rfl)
        rw [hh] at V1
        cases hz : zN r1
        · have HO2 := hid (show grO L x (i + 1) = O ++ [r1] by rw [HO1.out, hz]; rfl)
          rw [hz] at Z1
          clear HF1 FM1 hA1 hh HO1 hz
          go_wp2_with (first
            | (go_at_call 84; (with_reducible refine (TS1.out _).mono ?_); rintro en w2 ⟨rfl, hb2⟩; have y2 := below_trans yr hb2; have hown2 := hG.kept hb2; have hs2 := y2.size)
            | (go_at_call 19; (with_reducible refine (V1.out _).mono ?_); rintro en w3 ⟨rfl, rfl⟩)
            | (go_at_call 54; (with_reducible refine (Z1.out _).mono ?_); rintro en w3 ⟨rfl, rfl⟩)
            | (at_builtin; refine wpList_push64 ei_u64 (by omega) rfl _ _ rfl w.heap.size O r1 _ rfl (Own.alloc hown2 _) ⟨w2.heap.size, 0, none⟩ rfl (cell_push _ _ _ _ _ rfl) (by omega) (by simp; omega) ?_; intro v3 w3 hown3 hb3))
          go_roundw
          case rel => exact ⟨i + 1, by go_num, by omega, by rw [← HQN.out], HF2.out, by rw [HO2.out]; exact hown3, (y2.trans ((below_alloc w2 _).mono hs2)).trans hb3⟩
          case measure => first | (simp [intOf]; done) | (simp [intOf]; omega)
        · have HO2 := hid (show grO L x (i + 1) = O by rw [HO1.out, hz]; rfl)
          rw [hz] at Z1
          clear HF1 FM1 hA1 hh HO1 hz
          go_wp2_with (first
            | (go_at_call 84; (with_reducible refine (TS1.out _).mono ?_); rintro en w2 ⟨rfl, hb2⟩; have y2 := below_trans yr hb2; have hown2 := hG.kept hb2)
            | (go_at_call 19; (with_reducible refine (V1.out _).mono ?_); rintro en w3 ⟨rfl, rfl⟩)
            | (go_at_call 54; (with_reducible refine (Z1.out _).mono ?_); rintro en w3 ⟨rfl, rfl⟩))
          go_roundw
          case rel => exact ⟨i + 1, by go_num, by omega, by rw [← HQN.out], HF2.out, by rw [HO2.out]; exact hown2, y2⟩
          case measure => first | (simp [intOf]; done) | (simp [intOf]; omega)
    · have hie : i = L.length := by omega
      subst hie
      have HA := hid (show grwA L x = if zN (grQ L x L.length) = true then grO L x L.length else grO L x L.length ++ [grQ L x L.length] by rw [hA1.out, HF.out]; rfl)
      have hol := OL.out L.length
      have Z1 := hid (ZH.out (grQ L x L.length) hql)
      obtain ⟨q, hq⟩ : ∃ q, q = grQ L x L.length := ⟨_, rfl⟩
      obtain ⟨O, hO⟩ : ∃ q, q = grO L x L.length := ⟨_, rfl⟩
      rw [← hq] at hql HA Z1 ⊢
      rw [← hO] at hG hol HA
      have hs2 := yr.size
      clear hA1 QL FM SP HLL OL hq hO VH ZH
      cases hz : zN q
      · have HA2 := hid (show grwA L x = O ++ [q] by rw [HA.out, hz]; rfl)
        rw [hz] at Z1
        clear HA hz
        go_wp2_with (first
          | (go_at_call 54; (with_reducible refine (Z1.out _).mono ?_); rintro en w3 ⟨rfl, rfl⟩)
          | (at_builtin; refine wpList_push64 ei_u64 (by omega) rfl _ _ rfl w.heap.size O q _ rfl (Own.alloc hG _) ⟨wr.heap.size, 0, none⟩ rfl (cell_push _ _ _ _ _ rfl) (by omega) (by simp; omega) ?_; intro v3 w3 hown3 hb3))
        obtain ⟨a9, c9, e9, hN9⟩ := hown3.ns
        rw [← HA2.out] at e9 hN9
        subst e9
        go_wp2_with fail
        go_ret2
        exact ⟨a9, c9, by rw [HF.out]; rfl, hN9, (yr.trans ((below_alloc wr _).mono hs2)).trans hb3⟩
      · have HA2 := hid (show grwA L x = O by rw [HA.out, hz]; rfl)
        rw [hz] at Z1
        clear HA hz
        obtain ⟨a9, c9, e9, hN9⟩ := hG.ns
        rw [← HA2.out] at e9 hN9
        subst e9
        go_wp2_with (go_at_call 54; (with_reducible refine (Z1.out _).mono ?_); rintro en w3 ⟨rfl, rfl⟩)
        go_ret2
        exact ⟨a9, c9, by rw [HF.out]; rfl, hN9, yr⟩
end Go.Proofs.YthaelmnblgollaaGreatDoor
set_option linter.unusedVariables false
set_option linter.unusedSimpArgs false
namespace Go.Proofs.YthaelmnblgollaaGreatDoor
open Go.RowKit Go.Ulp
set_option linter.unusedVariables false
set_option linter.unusedSimpArgs false
set_option maxHeartbeats 2000000
set_option maxRecDepth 100000
theorem growJoin_any (ao bo : Option Addr) (ca cb : Nat) (A B : List Nat) (w : World) (hA : Ns .u64 w ao ca A) (hB : Ns .u64 w bo cb B) (hAL : ∀ j, lb A j < 18446744073709551616) (hBL : ∀ j, lb B j < 18446744073709551616) (hT : Tab 0 w) :
    Calls Tryz.prog 12 #[.slice ao A.length ca, .slice bo B.length cb] w fun e w' => ∃ a c, e = .returned (.tuple #[.slice a (jnA A B).length c, .int .i64 (jnE A B)]) ∧ Ns .u64 w' a c (jnA A B) ∧ Below w.heap.size w w' := by
  have CA := hid (fun w h t => growCheck_any ao ca A w h hAL t)
  have CB := hid (fun w h t => growCheck_any bo cb B w h hBL t)
  have HA := hid hA
  have HB := hid hB
  have hcap := hB.1
  have hcap2 := hB.2.1
  unfold maxLen at hcap2
  have HT := hid hT
  have hJE := hid (show jnE A B = if prE A = 0 then (if prE B = 0 then (if jnR A B B.length = 0 then (if 60 < (jnL A B B.length).length then 2 else 0) else jnR A B B.length) else prE B) else prE A from rfl)
  have hJA := hid (show jnA A B = if jnE A B = 0 then jnL A B B.length else [] from rfl)
  have hix0 : ∀ u v w, (Instr.index 106 (.agg #[u, v]) (.int .i64 0)).run Tryz.prog w = .ok u w := fun u v w => rfl
  have hix1 : ∀ u v w, (Instr.index 106 (.agg #[u, v]) (.int .i64 1)).run Tryz.prog w = .ok v w := fun u v w => rfl
  have CLN := hid (fun w h => clone64_any ao ca A w h)
  have RM := hid (fun i h => jnR_mono A B i h B.length)
  have RS := hid (show ∀ i, jnR A B (i + 1) = if jnR A B i = 0 then gwE (jnL A B i) (B.getD i 0) else jnR A B i from fun _ => rfl)
  have LS := hid (show ∀ i, jnL A B (i + 1) = gwA (jnL A B i) (B.getD i 0) from fun _ => rfl)
  have LL := hid (fun i => jnL_lt A B (allLt_of hAL) hBL i)
  have LEN := hid (fun i h h2 => jnL_len A B i h h2)
  have HBL := hid hBL
  have hl60 := hid (fun h => (prE_zero' A h).1)
  clear hA hB hAL hBL hT
  go_enter Tryz.func12, Tryz.ntmps12
  go_wp2_with fail
  go_loopw [7, 8, 16] (fun _ _ s16 wr => ((s16 = .int .i64 0) ∨ (s16 = .int .i64 1 ∧ prE A = 0) ∨ (s16 = .int .i64 2 ∧ prE A = 0 ∧ prE B = 0)) ∧ Below w.heap.size w wr) (fun _ _ i _ => (2 - intOf i).toNat)
  case atStart => exact ⟨.inl rfl, Below.refl _ _⟩
  case round =>
    obtain ⟨hst, yr⟩ := hrel
    rcases hst with rfl | ⟨rfl, hpa⟩ | ⟨rfl, hpa, hpb⟩
    · by_cases hpa : prE A = 0
      · have HPA := hid hpa
        rw [hpa] at CA
        clear hpa
        go_wp2_with (go_at_call 14; (with_reducible refine (CA.out _ (HA.out.below yr) (HT.out.below yr)).mono ?_); rintro en w1 ⟨rfl, hb1⟩)
        go_roundw
        case rel => exact ⟨.inr (.inl ⟨rfl, HPA.out⟩), below_trans yr hb1⟩
        case measure => simp [intOf]
      · have HE := hid (show jnE A B = prE A by rw [hJE.out, if_neg hpa])
        have HAA := hid (show jnA A B = [] by rw [hJA.out, HE.out, if_neg hpa])
        obtain ⟨E, hE⟩ : ∃ E, E = prE A := ⟨_, rfl⟩
        rw [← hE] at CA HE hpa
        have hp1 : (E == 0) = false := beq_eq_false_iff_ne.2 hpa
        have hp2 : (E != 0) = true := bne_iff_ne.2 hpa
        clear hE hJE hJA
        go_wp2_with (go_at_call 14; (with_reducible refine (CA.out _ (HA.out.below yr) (HT.out.below yr)).mono ?_); rintro en w1 ⟨rfl, hb1⟩)
        go_ret2
        exact ⟨none, 0, by rw [HE.out, HAA.out]; rfl, by rw [HAA.out]; exact Ns.nil, below_trans yr hb1⟩
    · have HPA := hid hpa
      by_cases hpb : prE B = 0
      · have HPB := hid hpb
        rw [hpb] at CB
        clear hpa hpb
        go_wp2_with (go_at_call 14; (with_reducible refine (CB.out _ (HB.out.below yr) (HT.out.below yr)).mono ?_); rintro en w1 ⟨rfl, hb1⟩)
        go_roundw
        case rel => exact ⟨.inr (.inr ⟨rfl, HPA.out, HPB.out⟩), below_trans yr hb1⟩
        case measure => simp [intOf]
      · have HE := hid (show jnE A B = prE B by rw [hJE.out, if_pos hpa, if_neg hpb])
        have HAA := hid (show jnA A B = [] by rw [hJA.out, HE.out, if_neg hpb])
        obtain ⟨E, hE⟩ : ∃ E, E = prE B := ⟨_, rfl⟩
        rw [← hE] at CB HE hpb
        have hp1 : (E == 0) = false := beq_eq_false_iff_ne.2 hpb
        have hp2 : (E != 0) = true := bne_iff_ne.2 hpb
        clear hE hJE hJA hpa
        go_wp2_with (go_at_call 14; (with_reducible refine (CB.out _ (HB.out.below yr) (HT.out.below yr)).mono ?_); rintro en w1 ⟨rfl, hb1⟩)
        go_ret2
        exact ⟨none, 0, by rw [HE.out, HAA.out]; rfl, by rw [HAA.out]; exact Ns.nil, below_trans yr hb1⟩
    · have hl := hl60.out hpa
      have hJE2 := hid (show jnE A B = if jnR A B B.length = 0 then (if 60 < (jnL A B B.length).length then 2 else 0) else jnR A B B.length by rw [hJE.out, if_pos hpa, if_pos hpb])
      have LEN2 := hid (fun i h => LEN.out i hpa h)
      clear hJE hpa hpb LEN CA CB hl60
      go_upto_region 9 with (go_at_call 67; (with_reducible refine (CLN.out _ (HA.out.below yr) (by omega)).mono ?_); rintro en w1 ⟨v9, rfl, hown9, hb1⟩)
      obtain ⟨a9, c9, rfl, hN9⟩ := hown9.ns
      have H9 := hid hN9
      have y1 := below_trans yr hb1
      clear hN9 hown9 hb1 yr
      go_wp2_with fail
      go_loopw [9, 11, 12, 29] (fun s9 _ _ s29 wr => ∃ (i : Nat) (a : Option Addr) (c : Nat), s29 = .int .i64 (i : Int) ∧ i ≤ B.length ∧ s9 = .slice a (jnL A B i).length c ∧ Ns .u64 wr a c (jnL A B i) ∧ jnR A B i = 0 ∧ Below w.heap.size w wr) (fun _ _ _ i _ => (B.length - (intOf i).toNat))
      case atStart => exact ⟨0, a9, c9, rfl, by omega, rfl, H9.out, rfl, y1⟩
      case round =>
        obtain ⟨i, a, c, rfl, hi, rfl, hN, hR, yr⟩ := hrel
        have HR := hid hR
        have HN := hid hN
        have hlen := LEN2.out i hR
        clear hN hR y1 H9
        by_cases hi2 : (i : Int) < (B.length : Int)
        · obtain ⟨b0, o0, rfl, hc0⟩ := HB.out.2.2 (by omega)
          have k0 := (yr.cell (p := ⟨b0, o0 + i, none⟩) (World.block_lt_of_cell? _ _ (hc0 i (by omega)))).trans (hc0 i (by omega))
          have hk1 : wr.cell? ⟨b0, o0 + i, none⟩ = some (.int .u64 ((B.getD i 0 : Nat) : Int)) := k0
          have hyl : B.getD i 0 < 18446744073709551616 := by have := HBL.out i; unfold lb at this; omega
          have AD := hid (fun w h t => growAdd_any a c (jnL A B i) (B.getD i 0) w h (fun j => lb_of_lt (LL.out i) j) hyl t)
          have HRS := hid (show jnR A B (i + 1) = gwE (jnL A B i) (B.getD i 0) by rw [RS.out i, HR.out]; rfl)
          have HLS := hid (LS.out i)
          have RM1 := hid (fun h => RM.out (i + 1) h (by omega))
          obtain ⟨y, hy⟩ : ∃ y, y = B.getD i 0 := ⟨_, rfl⟩
          rw [← hy] at hk1 AD HRS HLS
          obtain ⟨N, hNN⟩ : ∃ N, N = jnL A B i := ⟨_, rfl⟩
          rw [← hNN] at AD HRS HLS HN hlen ⊢
          obtain ⟨G, hG⟩ : ∃ G9, G9 = gwA N y := ⟨_, rfl⟩
          rw [← hG] at AD HLS
          obtain ⟨E, hE⟩ : ∃ G9, G9 = gwE N y := ⟨_, rfl⟩
          rw [← hE] at AD HRS
          clear k0 hc0 hy hyl hNN hG hE RM RS LS LL LEN2 HBL
          by_cases hE0 : E = 0
          · subst hE0
            clear hJE2 hJA RM1
            go_wp2_with (go_at_call 11; (with_reducible refine (AD.out _ HN.out (HT.out.below yr)).mono ?_); rintro en w2 ⟨a3, c3, rfl, hN3, hb2⟩)
            go_roundw
            case rel => exact ⟨i + 1, a3, c3, by go_num, by omega, by rw [HLS.out], by rw [HLS.out]; exact hN3, HRS.out, below_trans yr hb2⟩
            case measure => first | (simp [intOf]; done) | (simp [intOf]; omega)
          · have HE := hid (show jnE A B = E by
              have h9 := RM1.out (by rw [HRS.out]; exact hE0)
              rw [hJE2.out, h9, HRS.out, if_neg hE0])
            have HAA := hid (show jnA A B = [] by rw [hJA.out, HE.out, if_neg hE0])
            have hp1 : (E == 0) = false := beq_eq_false_iff_ne.2 hE0
            have hp2 : (E != 0) = true := bne_iff_ne.2 hE0
            clear hJE2 hJA RM1 HRS HLS
            go_wp2_with (go_at_call 11; (with_reducible refine (AD.out _ HN.out (HT.out.below yr)).mono ?_); rintro en w2 ⟨a3, c3, rfl, hN3, hb2⟩)
            go_ret2
            exact ⟨none, 0, by rw [HE.out, HAA.out]; rfl, by rw [HAA.out]; exact Ns.nil, below_trans yr hb2⟩
        · have hie : i = B.length := by omega
          subst hie
          have hJE3 := hid (show jnE A B = if 60 < (jnL A B B.length).length then 2 else 0 by rw [hJE2.out, HR.out]; rfl)
          obtain ⟨N, hNN⟩ : ∃ N, N = jnL A B B.length := ⟨_, rfl⟩
          rw [← hNN] at HN hlen hJE3 hJA ⊢
          clear hNN RM RS LS LL LEN2 HBL hJE2
          by_cases h60 : 60 < N.length
          · have HE := hid (show jnE A B = 2 by rw [hJE3.out, if_pos h60])
            have HAA := hid (show jnA A B = [] by rw [hJA.out, HE.out]; rfl)
            have h61 : 60 < (N.length : Int) := by omega
            clear hJE3 hJA h60
            go_wp2_with fail
            go_ret2
            exact ⟨none, 0, by rw [HE.out, HAA.out]; rfl, by rw [HAA.out]; exact Ns.nil, yr⟩
          · have HE := hid (show jnE A B = 0 by rw [hJE3.out, if_neg h60])
            have HAA := hid (show jnA A B = N by rw [hJA.out, HE.out]; rfl)
            have h61 : ¬ 60 < (N.length : Int) := by omega
            clear hJE3 hJA h60
            go_wp2_with fail
            go_ret2
            exact ⟨a, c, by rw [HE.out, HAA.out]; rfl, by rw [HAA.out]; exact HN.out, yr⟩
end Go.Proofs.YthaelmnblgollaaGreatDoor
