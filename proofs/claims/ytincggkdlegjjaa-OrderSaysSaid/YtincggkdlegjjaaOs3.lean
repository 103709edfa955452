/- OrderSays: the law's walk. -/
import Derived.Test.YtincggkdlegjjaaOs2
import Derived.Deep.DeepCutAuto
import Derived.Deep.CutBlock
set_option linter.unusedVariables false
set_option linter.unusedSimpArgs false
namespace Go.Ulp
open Go.RowKit
theorem cmp_abv (x y : Int) (hx : U64 x) (hy : U64 y) : cmpI (okey x) (okey y) = if abvB x y = true then 1 else if x ≠ y then -1 else 0 := by
  unfold abvB cmpI
  by_cases h : okey y < okey x
  · rw [if_neg (by omega), if_pos h, if_pos (decide_eq_true h)]
  · rw [if_neg (fun h9 => h (of_decide_eq_true h9))]
    by_cases e : x = y
    · subst e
      rw [if_neg (by omega), if_neg (by omega), if_neg (by simp)]
    · have hne : okey x ≠ okey y := by
        intro h9
        obtain ⟨a, rfl⟩ := Int.eq_ofNat_of_zero_le hx.1
        obtain ⟨b, rfl⟩ := Int.eq_ofNat_of_zero_le hy.1
        exact e (by rw [okey_inj a b h9])
      rw [if_pos (by omega), if_pos e]
theorem cmpI_l9 {a b : Int} (h : a < b) : cmpI a b = -1 := by unfold cmpI; rw [if_pos h]
theorem cmpI_g9 {a b : Int} (h : b < a) : cmpI a b = 1 := by unfold cmpI; rw [if_neg (by omega), if_pos h]
theorem cmpI_e9 {a b : Int} (h : a = b) : cmpI a b = 0 := by unfold cmpI; rw [if_neg (by omega), if_neg (by omega)]
end Go.Ulp
namespace Go.Proofs.Ytincggkdlegjjaa
open Go.RowKit Go.Ulp
set_option linter.unusedVariables false
set_option linter.unusedSimpArgs false
set_option maxHeartbeats 4000000
set_option maxRecDepth 100000
/-- what the law asks of the lesser and the greater one -/
theorem least_tell (x y : Int) (nx : classOf x ≠ 5) (ny : classOf y ≠ 5) (hx : U64 x) (hy : U64 y) (T : Int) (hT : T = cmpI (okey x) (okey y)) : leastOf x y 1 = (if 0 < T then y else x) ∧ leastOf x y (-1) = (if 0 < T then x else y) := by
  have h1 := cmp_abv x y hx hy
  rw [← hT] at h1
  have hn : ¬ (classOf x = 5 ∨ classOf y = 5) := by omega
  unfold leastOf
  rw [if_neg hn, if_neg hn, ← hT]
  by_cases a : abvB x y = true
  · rw [if_pos a] at h1
    rw [h1]
    simp
  · rw [if_neg a] at h1
    by_cases e : x = y
    · subst e
      rw [if_neg (by simp)] at h1
      rw [h1]; simp
    · rw [if_pos e] at h1
      rw [h1]; simp
theorem least_nan (x y s : Int) (h : classOf x = 5 ∨ classOf y = 5) : leastOf x y s = 9221120237041090560 := by unfold leastOf; rw [if_pos h]
theorem oIsNan_any (x : Int) (h0 : 0 ≤ x) (h1 : x < 18446744073709551616) (w : World) :
    Calls Try.prog 12 #[.int .u64 x] w fun e w' => e = .returned (.bool (classOf x == 5)) ∧ w = w' := by
  have CL := hid (fun w => classOf_any x h0 h1 w)
  generalize classOf x = c at *
  go_enter Try.func12, Try.ntmps12
  go_wp2_with (go_at_call 23; (with_reducible refine (CL.out _).mono ?_); rintro en w1 ⟨rfl, rfl⟩)
  go_ret
  exact ⟨rfl, rfl⟩
theorem oQuiet_any (w : World) : Calls Try.prog 13 #[] w fun e w' => e = .returned (.int .u64 9221120237041090560) ∧ w = w' := by
  go_enter Try.func13, Try.ntmps13
  go_wp2_with fail
  go_ret
  exact ⟨rfl, rfl⟩
theorem oMin_any (x y : Int) (hx : U64 x) (hy : U64 y) (w : World) : Calls Try.prog 5 #[.int .u64 x, .int .u64 y] w fun e w' => e = .returned (.int .u64 (leastOf x y 1)) ∧ w = w' := by
  have LE := hid (fun w => least_any x y 1 hx hy (.inl rfl) w)
  generalize leastOf x y 1 = r at *
  obtain ⟨x0, x1⟩ := hx
  obtain ⟨y0, y1⟩ := hy
  go_enter Try.func5, Try.ntmps5
  go_wp2_with (go_at_call 17; (with_reducible refine (LE.out _).mono ?_); rintro en w1 ⟨rfl, rfl⟩)
  go_ret
  exact ⟨rfl, rfl⟩
theorem oMax_any (x y : Int) (hx : U64 x) (hy : U64 y) (w : World) : Calls Try.prog 6 #[.int .u64 x, .int .u64 y] w fun e w' => e = .returned (.int .u64 (leastOf x y (-1))) ∧ w = w' := by
  have LE := hid (fun w => least_any x y (-1) hx hy (.inr rfl) w)
  generalize leastOf x y (-1) = r at *
  obtain ⟨x0, x1⟩ := hx
  obtain ⟨y0, y1⟩ := hy
  go_enter Try.func6, Try.ntmps6
  go_wp2_with (go_at_call 17; (with_reducible refine (LE.out _).mono ?_); rintro en w1 ⟨rfl, rfl⟩)
  go_ret
  exact ⟨rfl, rfl⟩
/-- what order.Cmp answers -/
theorem oCmp_any (x y : Int) (hx : U64 x) (hy : U64 y) (w : World) : Calls Try.prog 4 #[.int .u64 x, .int .u64 y] w fun e w' => e = .returned (.tuple #[.int .i64 (if classOf x = 5 ∨ classOf y = 5 then 0 else cmpI (rankOf x) (rankOf y)), .bool (!(classOf x == 5 || classOf y == 5))]) ∧ w = w' := by
  by_cases h : classOf x = 5 ∨ classOf y = 5
  · have h9 := orderCmp_nan x y hx hy h w
    rw [if_pos h, show (classOf x == 5 || classOf y == 5) = true by rcases h with h | h <;> simp [h]]
    exact h9
  · have h9 := orderCmp_num x y hx hy (fun h8 => h (.inl h8)) (fun h8 => h (.inr h8)) w
    rw [if_neg h, show (classOf x == 5 || classOf y == 5) = false by rw [Bool.or_eq_false_iff, beq_eq_false_iff_ne, beq_eq_false_iff_ne]; omega]
    exact h9
theorem orderSays_walk (x y : Int) (L : List Nat) (ao : Option Addr) (cap : Nat) (hx : U64 x) (hy : U64 y) (W : World) (hN : Ns .u64 W ao cap L) (hL : AllLt 18446744073709551616 L) (hlen : L.length ≤ 17592186043904) :
    Calls Try.prog 3 #[.int .u64 x, .int .u64 y, .slice ao L.length cap] W fun e w' => e = .returned (.bool true) ∧ Below W.heap.size W w' := by
  have CM := hid (fun w => oCmp_any x y hx hy w)
  have MI := hid (fun w => oMin_any x y hx hy w)
  have MA := hid (fun w => oMax_any x y hx hy w)
  have AB := hid (fun w => above_any x y hx hy w)
  have TT := hid (fun w => total_any x y hx hy w)
  have NX := hid (fun w => oIsNan_any x hx.1 hx.2 w)
  have NY := hid (fun w => oIsNan_any y hy.1 hy.2 w)
  have RX := hid (fun w => rankOf_any x hx.1 hx.2 w)
  have RY := hid (fun w => rankOf_any y hy.1 hy.2 w)
  have H0 := hid hN
  have HLt := hid hL
  have HLen := hid hlen
  have hcap := hN.1
  have hcap2 := hN.2.1
  unfold maxLen at hcap2
  have INS := hid (fun (S : List Nat) a c (z : Nat) w h (hS : AllLt 18446744073709551616 S) (hz : z < 18446744073709551616) (hl : S.length ≤ 17592186044414) => inserted_any a c S z w h hS hz hl)
  have SO := hid (fun w h => sort_any ao cap L w h hL (by omega))
  have EQ := hid (show ∀ a c b d w, Ns .u64 w a c (sortK L) → Ns .u64 w b d (sortK L) → Calls Try.prog 10 #[.slice a (sortK L).length c, .slice b (sortK L).length d] w fun e w' => e = .returned (.bool true) ∧ Below w.heap.size w w' from fun a c b d w h0 h1 => by
    have h9 := equal64_any a b c d (sortK L) (sortK L) w h0 h1
    rwa [decide_eq_true rfl] at h9)
  obtain ⟨T, hT⟩ : ∃ T, T = cmpI (okey x) (okey y) := ⟨_, rfl⟩
  have hT2 := cmp_abv x y hx hy
  rw [← hT] at hT2 TT
  have HT2 := hid hT2
  have LT := hid (fun nx ny => least_tell x y nx ny hx hy T hT)
  have LN := hid (fun s h => least_nan x y s h)
  have hTb : -1 ≤ T ∧ T ≤ 1 := by rw [hT]; exact cmpI_bd _ _
  obtain ⟨LO, hLO⟩ : ∃ z, z = leastOf x y 1 := ⟨_, rfl⟩
  obtain ⟨HI, hHI⟩ : ∃ z, z = leastOf x y (-1) := ⟨_, rfl⟩
  have HLO := hid hLO
  have HHI := hid hHI
  rw [← hLO] at MI
  rw [← hHI] at MA
  have brx := rank_bd x
  have bry := rank_bd y
  obtain ⟨RC, hRC⟩ : ∃ z, z = cmpI (rankOf x) (rankOf y) := ⟨_, rfl⟩
  have HRC := hid hRC
  obtain ⟨x0, x1⟩ := hx
  obtain ⟨y0, y1⟩ := hy
  obtain ⟨hT0, hT1⟩ := hTb
  clear hN hL hT hT2 hLO hHI hRC hlen
  have CMF := hid (show ∀ nx ny : Bool, nx = (classOf x == 5) → ny = (classOf y == 5) → ∀ w, Calls Try.prog 4 #[.int .u64 x, .int .u64 y] w fun e w' => e = .returned (.tuple #[.int .i64 (if (nx || ny) = true then 0 else RC), .bool (!(nx || ny))]) ∧ w = w' from fun nx ny hnx hny w => by
    have h9 := CM.out w
    subst hnx hny
    rw [HRC.out]
    have e1 : (if classOf x = 5 ∨ classOf y = 5 then 0 else cmpI (rankOf x) (rankOf y)) = (if (classOf x == 5 || classOf y == 5) = true then 0 else cmpI (rankOf x) (rankOf y)) := by
      simp only [Bool.or_eq_true, beq_iff_eq]
    rw [← e1]
    exact h9)
  obtain ⟨nx, hnx⟩ : ∃ b, b = (classOf x == 5) := ⟨_, rfl⟩
  obtain ⟨ny, hny⟩ : ∃ b, b = (classOf y == 5) := ⟨_, rfl⟩
  have CM2 := hid (CMF.out nx ny hnx hny)
  rw [← hnx] at NX
  rw [← hny] at NY
  have HNX := hid hnx
  have HNY := hid hny
  obtain ⟨N9, hN9⟩ : ∃ z, z = (if (nx || ny) = true then 0 else RC) := ⟨_, rfl⟩
  obtain ⟨B9, hB9⟩ : ∃ z, z = !(nx || ny) := ⟨_, rfl⟩
  rw [← hN9, ← hB9] at CM2
  have HN9 := hid hN9
  have HB9 := hid hB9
  clear CM CMF hnx hny hN9 hB9
  go_enter Try.func3, Try.ntmps3
  obtain ⟨ab, hab⟩ : ∃ b, b = abvB x y := ⟨_, rfl⟩
  rw [← hab] at AB
  have HAB := hid hab
  clear hab
  go_upto_block 0 with (first
    | (go_at_call 4; (with_reducible refine (CM2.out _).mono ?_); rintro en w1 ⟨rfl, rfl⟩)
    | (go_at_call 5; (with_reducible refine (MI.out _).mono ?_); rintro en w1 ⟨rfl, rfl⟩)
    | (go_at_call 6; (with_reducible refine (MA.out _).mono ?_); rintro en w1 ⟨rfl, rfl⟩))
  go_cut [11] (fun s11 wx => s11 = .int .i64 T ∧ wx = W)
  case first =>
    cases ab
    · by_cases e : x = y
      · have H5 := hid (show T = 0 by rw [HT2.out, ← HAB.out, if_neg (by simp), if_neg (fun h => h e)])
        have hne : (x != y) = false := by rw [bne_eq_false_iff_eq]; exact e
        clear e
        go_wp2_with (go_at_call 7; (with_reducible refine (AB.out _).mono ?_); rintro en w1 ⟨rfl, rfl⟩)
        go_meet
        exact ⟨by rw [H5.out], rfl⟩
      · have H5 := hid (show T = -1 by rw [HT2.out, ← HAB.out, if_neg (by simp), if_pos e])
        have hne : (x != y) = true := by rw [bne_iff_ne]; exact e
        clear e
        go_wp2_with (go_at_call 7; (with_reducible refine (AB.out _).mono ?_); rintro en w1 ⟨rfl, rfl⟩)
        go_meet
        exact ⟨by rw [H5.out], rfl⟩
    · have H5 := hid (show T = 1 by rw [HT2.out, ← HAB.out, if_pos rfl])
      go_wp2_with (go_at_call 7; (with_reducible refine (AB.out _).mono ?_); rintro en w1 ⟨rfl, rfl⟩)
      go_meet
      exact ⟨by rw [H5.out], rfl⟩
  case rest =>
  obtain ⟨rfl, rfl⟩ := hcut
  obtain ⟨rx, hrx⟩ : ∃ r, r = rankOf x := ⟨_, rfl⟩
  obtain ⟨ry, hry⟩ : ∃ r, r = rankOf y := ⟨_, rfl⟩
  rw [← hrx] at RX brx
  rw [← hry] at RY bry
  have HRC2 := hid (show RC = cmpI rx ry by rw [HRC.out, hrx, hry])
  obtain ⟨rx0, rx1⟩ := brx
  obtain ⟨ry0, ry1⟩ := bry
  clear hrx hry HRC CM2 MI MA AB HT2 HAB
  go_wp2_with fail
  go_loopw [12, 14, 42] (fun s12 s14 i wr => ∃ (k : Nat) (a : Option Addr) (c : Nat), k ≤ L.length ∧ i = .int .i64 (k : Int) ∧ s12 = .slice a (sortK (L.take k)).length c ∧ Ns .u64 wr a c (sortK (L.take k)) ∧ Below wc.heap.size wc wr) (fun _ _ i _ => L.length - (intOf i).toNat)
  case atStart => exact ⟨0, none, 0, by omega, rfl, rfl, Ns.nil, Below.refl _ _⟩
  case round =>
    obtain ⟨k, a, c, hk, rfl, rfl, hNs, hb⟩ := hrel
    by_cases hlt : k < L.length
    · have H2 := hid H0.out.2.2
      obtain ⟨b0, o0, rfl, hc0⟩ := H2.out (by omega)
      obtain ⟨z, hz⟩ : ∃ z, z = L[k] := ⟨_, rfl⟩
      have hz1 : z < 18446744073709551616 := by rw [hz]; exact HLt.out _ (List.getElem_mem hlt)
      have hcell : wr.cell? ⟨b0, o0 + k, none⟩ = some (.int .u64 (z : Int)) := by
        have h1 := hc0 k hlt
        have h2 := hb.cell (p := ⟨b0, o0 + k, none⟩) (World.block_lt_of_cell? _ _ h1)
        rw [h2, h1, hz]
        unfold lb
        rw [List.getD_eq_getElem?_getD, List.getElem?_eq_getElem hlt]; rfl
      have hzlt : ∀ d ∈ sortK (L.take k), d < 18446744073709551616 := fun d hd => HLt.out d (List.mem_of_mem_take ((sortK_perm _).mem_iff.1 hd))
      have hsl : (sortK (L.take k)).length ≤ 17592186044414 := by
        have := HLen.out
        rw [sortK_len, List.length_take]; omega
      have hsn : insK z (sortK (L.take k)) = sortK (L.take (k + 1)) := by
        rw [← sortK_snoc, hz, List.take_succ_eq_append_getElem hlt]
      have IN1 := hid (fun w h => INS.out (sortK (L.take k)) a c z w h hzlt hz1 hsl)
      rw [hsn] at IN1
      have INk := hid IN1.out
      clear hzlt hsl hsn IN1
      have HNs := hid hNs
      obtain ⟨S, hS⟩ : ∃ S, S = sortK (L.take k) := ⟨_, rfl⟩
      obtain ⟨S2, hS2⟩ : ∃ S, S = sortK (L.take (k + 1)) := ⟨_, rfl⟩
      have hNc := hNs.1
      have hNc2 := hNs.2.1
      unfold maxLen at hNc2
      rw [← hS] at INk HNs hNc ⊢
      rw [← hS2] at INk
      have HS2 := hid hS2
      clear hc0 hz hz1 hNs hS hS2 H2
      go_wp2_with (go_at_call 8; (with_reducible refine (INk.out _ HNs.out).mono ?_); rintro en w2 ⟨a2, c2, rfl, hN2, hb2⟩)
      go_roundw
      case rel => exact ⟨k + 1, a2, c2, by omega, by go_num, by rw [HS2.out], by rw [← HS2.out]; exact hN2, below_trans hb hb2⟩
      case measure => simp [intOf]; omega
    · have e : L.take k = L := List.take_of_length_le (by omega)
      rw [e] at hNs ⊢
      have HNs := hid hNs
      have hNc := hNs.1
      have hNc2 := hNs.2.1
      unfold maxLen at hNc2
      clear e hNs INS
      go_upto_region 16 with (first
        | (go_at_call 9; (with_reducible refine (TT.out _).mono ?_); rintro en w1 ⟨rfl, rfl⟩)
        | (go_at_call 11; (with_reducible refine (SO.out _ (H0.out.below hb)).mono ?_); rintro en w2 ⟨a2, c2, rfl, hN2, hb2⟩)
        | (go_at_call 10; (with_reducible refine (EQ.out _ _ _ _ _ hN2 (HNs.out.below hb2)).mono ?_); rintro en w3 ⟨rfl, hb3⟩))
      have yb := below_trans (below_trans hb hb2) hb3
      clear hb hb2 hb3 hN2 HNs SO EQ TT hNc hNc2
      cases hno : (nx || ny)
      · have e1 : nx = false := by cases nx <;> simp_all
        have e2 : ny = false := by cases ny <;> simp_all
        have e3 : N9 = RC := by rw [HN9.out, hno]; rfl
        have e4 : B9 = true := by rw [HB9.out, hno]; rfl
        have c1 : classOf x ≠ 5 := by intro h; rw [HNX.out, h] at e1; simp at e1
        have c2 : classOf y ≠ 5 := by intro h; rw [HNY.out, h] at e2; simp at e2
        have LT2 := hid (LT.out c1 c2)
        clear hno c1 c2 LT LN HNX HNY HN9 HB9
        subst e1 e2 e3 e4
        go_upto_block 3 with (first
          | (go_at_call 12; (with_reducible refine (NX.out _).mono ?_); rintro en w1 ⟨rfl, rfl⟩)
          | (go_at_call 12; (with_reducible refine (NY.out _).mono ?_); rintro en w1 ⟨rfl, rfl⟩)
          | (go_at_call 14; (with_reducible refine (RX.out _).mono ?_); rintro en w1 ⟨rfl, rfl⟩)
          | (go_at_call 14; (with_reducible refine (RY.out _).mono ?_); rintro en w1 ⟨rfl, rfl⟩))
        clear NX NY RX RY
        obtain ⟨W3, hW3⟩ : ∃ Z, Z = w3 := ⟨_, rfl⟩
        rw [← hW3] at yb ⊢
        clear hW3
        go_cut [17] (fun s17 wx => s17 = .int .i64 N9 ∧ wx = W3)
        case first =>
          by_cases h1 : rx < ry
          · have H5 := hid (show N9 = -1 by rw [HRC2.out]; exact cmpI_l9 h1)
            go_wp2_with fail
            go_meet
            exact ⟨by rw [H5.out], rfl⟩
          · by_cases h2 : ry < rx
            · have H5 := hid (show N9 = 1 by rw [HRC2.out]; exact cmpI_g9 h2)
              go_wp2_with fail
              go_meet
              exact ⟨by rw [H5.out], rfl⟩
            · have H5 := hid (show N9 = 0 by rw [HRC2.out]; exact cmpI_e9 (by omega))
              go_wp2_with fail
              go_meet
              exact ⟨by rw [H5.out], rfl⟩
        case rest =>
        obtain ⟨rfl, rfl⟩ := hcut
        by_cases hp : 0 < T
        · obtain rfl : LO = y := by rw [HLO.out, LT2.out.1, if_pos hp]
          obtain rfl : HI = x := by rw [HHI.out, LT2.out.2, if_pos hp]
          clear LT2 HLO HHI
          go_wp2_with fail
          go_ret
          exact ⟨rfl, yb⟩
        · obtain rfl : LO = x := by rw [HLO.out, LT2.out.1, if_neg hp]
          obtain rfl : HI = y := by rw [HHI.out, LT2.out.2, if_neg hp]
          clear LT2 HLO HHI
          go_wp2_with fail
          go_ret
          exact ⟨rfl, yb⟩
      · have hn : classOf x = 5 ∨ classOf y = 5 := by
          rw [HNX.out, HNY.out] at hno
          rcases Bool.or_eq_true .. ▸ hno with h | h
          · exact .inl (beq_iff_eq.1 h)
          · exact .inr (beq_iff_eq.1 h)
        obtain rfl : N9 = 0 := by rw [HN9.out, hno]; rfl
        obtain rfl : B9 = false := by rw [HB9.out, hno]; rfl
        obtain rfl : LO = 9221120237041090560 := by rw [HLO.out]; exact LN.out 1 hn
        obtain rfl : HI = 9221120237041090560 := by rw [HHI.out]; exact LN.out (-1) hn
        clear hn LT LN HLO HHI HNX HNY HN9 HB9
        cases nx
        · obtain rfl : ny = true := by simpa using hno
          clear hno
          go_wp2_with (first
            | (go_at_call 12; (with_reducible refine (NX.out _).mono ?_); rintro en w1 ⟨rfl, rfl⟩)
            | (go_at_call 12; (with_reducible refine (NY.out _).mono ?_); rintro en w1 ⟨rfl, rfl⟩)
            | (go_at_call 13; (with_reducible refine (oQuiet_any _).mono ?_); rintro en w1 ⟨rfl, rfl⟩))
          go_ret
          exact ⟨rfl, yb⟩
        · clear hno
          go_wp2_with (first
            | (go_at_call 12; (with_reducible refine (NX.out _).mono ?_); rintro en w1 ⟨rfl, rfl⟩)
            | (go_at_call 13; (with_reducible refine (oQuiet_any _).mono ?_); rintro en w1 ⟨rfl, rfl⟩))
          go_ret
          exact ⟨rfl, yb⟩
end Go.Proofs.Ytincggkdlegjjaa
