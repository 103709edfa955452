/- The reference's reading of a text. -/
import Derived.Test.YthaelmnblgollaaGreatDoorRe9
set_option linter.unusedVariables false
set_option linter.unusedSimpArgs false
namespace Go.Ulp
open Go.RowKit
theorem hp_nil (c : UInt8) : Lib.hasPrefix [] [c] = false := by simp [Lib.hasPrefix, List.isPrefixOf]
theorem hp_cons (b : UInt8) (r : List UInt8) (c : UInt8) : Lib.hasPrefix (b :: r) [c] = decide (b.toNat = c.toNat) := by
  unfold Lib.hasPrefix
  rw [List.isPrefixOf_cons_cons, List.isPrefixOf_nil_left, Bool.and_true]
  by_cases h : b = c
  · rw [h]; simp
  · rw [decide_eq_false (fun h9 => h (UInt8.toNat_inj.1 h9))]
    exact beq_eq_false_iff_ne.2 (fun h9 => h h9.symm)
/-- a letter at a place, or none -/
theorem at_cases (P : Program) (t : TypeId) (ht : P.underlying t = some .string) (L : List UInt8) (j : Nat) :
    (L.length ≤ j ∧ L.drop j = []) ∨ ∃ (b : UInt8) (r : List UInt8) (x : Int), j < L.length ∧ L.drop j = b :: r ∧ L.drop (j + 1) = r ∧ x = (b.toNat : Int) ∧ (∀ w, (Instr.index t (.string (bsOf L)) (.int .i64 (j : Int))).run P w = .ok (.int .u8 x) w) := by
  cases hd : L.drop j with
  | nil =>
    refine .inl ⟨?_, rfl⟩
    have := congrArg List.length hd
    rw [List.length_drop, List.length_nil] at this; omega
  | cons b r =>
    obtain ⟨h1, h2, -⟩ := drop_cons hd
    exact .inr ⟨b, r, _, h1, rfl, h2, rfl, run_index ht L j b r hd⟩
/-- an exponent's letter ahead -/
def exH (RE : List UInt8) : Bool := match RE with | [] => false | c :: _ => isE c
theorem exH_no {RE : List UInt8} (h : exH RE = false) : pwV RE = 0 ∧ (pwO RE = true ↔ RE = []) := by
  cases RE with
  | nil => exact ⟨rfl, fun _ => rfl, fun _ => rfl⟩
  | cons c r =>
    have h1 : isE c = false := h
    refine ⟨?_, ?_⟩
    · show (if isE c = true then xpV r else 0) = 0
      rw [h1]; rfl
    · show ((isE c && okX (sgS r)) = true ↔ _)
      rw [h1]; simp
theorem slice_mid {P : Program} {t : TypeId} (ht : P.underlying t = some .string) (E : List UInt8) (i j : Nat) (h : i ≤ j) (h2 : j ≤ E.length) (w : World) : (Instr.slice t (.string (bsOf E)) (some (.int .i64 (i : Int))) (some (.int .i64 (j : Int))) none).run P w = .ok (.string (bsOf ((E.drop i).take (j - i)))) w := by
  have e : (bsOf E).extract i j = bsOf ((E.drop i).take (j - i)) := by
    apply ByteArray.ext
    simp [bsOf]
  rw [run_slice_string_if w t _ _ _ _ _ ht, if_pos ⟨by omega, by rw [bs_size]; omega⟩, if_pos ⟨by omega, by omega⟩, Int.toNat_natCast, Int.toNat_natCast]
  exact congrArg (fun x => Result.ok (Value.string x) w) e
end Go.Ulp
namespace Go.Proofs.YthaelmnblgollaaGreatDoor
open Go.RowKit Go.Ulp
set_option linter.unusedVariables false
set_option linter.unusedSimpArgs false
set_option maxHeartbeats 4000000
set_option maxRecDepth 100000
theorem text_long (L : List UInt8) (w : World) (hl : 1000 < L.length) (h2 : L.length ≤ 9223372036854775807) :
    Calls Tryz.prog 39 #[.string (bsOf L)] w (RetPz false [] 0 2 w) := by
  have hsz := bs_size L
  generalize bsOf L = Q at *
  go_enter Tryz.func39, Tryz.ntmps39
  go_wp2_with fail
  (try simp only [Exit.inBlock, Exit.then]); refine bodyPost_ret (ret4 rfl _ _ _) rfl ?_
  exact ⟨rfl, Below.refl _ _⟩
theorem text_core (L T W R PA RE A D : List UInt8) (neg pt ok : Bool) (K : Int) (v0 : Bool) (v1 : List UInt8) (v2 v3 : Int) (w : World) (hl : L.length ≤ 1000)
    (eT : rdT L = T) (en : Lib.hasPrefix L [45] = neg) (eW : tkD T = W) (eR : dpD T = R) (ep : rPt R = pt) (eP : rPart R = PA) (eE : rRest R = RE) (ek : pwV RE = K) (eo : pwO RE = ok) (eA : W ++ PA = A) (eD : (A.dropWhile fun b => b == 48) = D)
    (c1 : ok = false → v0 = false ∧ v1 = [] ∧ v2 = 0 ∧ v3 = 5) (c2 : ok = true → A = [] → v0 = false ∧ v1 = [] ∧ v2 = 0 ∧ v3 = 5)
    (c3 : ok = true → A ≠ [] → D = [] → v0 = neg ∧ v1 = [] ∧ v2 = 0 ∧ v3 = 0) (c4 : ok = true → A ≠ [] → D ≠ [] → v0 = neg ∧ v1 = D ∧ v2 = K - (PA.length : Int) ∧ v3 = 0) :
    Calls Tryz.prog 39 #[.string (bsOf L)] w (RetPz v0 v1 v2 v3 w) := by
  have hsz := bs_size L
  have h1k : ¬ 1000 < (L.length : Int) := by omega
  obtain ⟨a0, ha0⟩ : ∃ a0 : Nat, a0 = if neg = true then 1 else 0 := ⟨_, rfl⟩
  have hnl : neg = true → 1 ≤ L.length := fun h => hp_len (by rw [en, h])
  have ha1 : a0 ≤ L.length := by rw [ha0]; split
                                 · rename_i h; exact hnl h
                                 · omega
  have hT : L.drop a0 = T := by
    rw [← eT, ha0]; unfold rdT; rw [trimPrefix_one, en]
    cases neg <;> rfl
  have hen : a0 + W.length ≤ L.length := by
    have h := tk_len (L.drop a0)
    rw [hT, eW, ← hT, List.length_drop] at h; omega
  obtain ⟨e1, he1⟩ : ∃ e1 : Nat, e1 = a0 + W.length := ⟨_, rfl⟩
  have hRd : L.drop e1 = R := by
    rw [he1, ← List.drop_drop, hT, ← eW, drop_tk, eR]
  have RN1 := hid (show ∀ w, Calls Tryz.prog 109 #[.string (bsOf L), .int .i64 (a0 : Int)] w fun e w' => e = .returned (.int .i64 (e1 : Int)) ∧ w = w' from fun w => by
    have h := run_any L a0 w (by omega) ha1
    rw [hT, eW, ← he1] at h; exact h)
  have SA := slice_mid (P := Tryz.prog) Tryz.underlying9 L a0 e1 (by omega) (by omega)
  rw [hT, show e1 - a0 = W.length by omega, ← eW, take_tk, eW] at SA
  have AC0 := hid (at_cases Tryz.prog 9 Tryz.underlying9 L 0)
  have AC1 := hid (at_cases Tryz.prog 9 Tryz.underlying9 L e1)
  have HEN := hid en
  have HA := hid ha0
  have HE1 := hid he1
  have hpb : PA.length ≤ 1000 := by
    have h1 : PA.length ≤ R.length := by
      rw [← eP]; unfold rPart; split
      · have := tk_len (R.drop 1); rw [List.length_drop] at this; omega
      · simp
    have h2 := congrArg List.length hRd
    rw [List.length_drop] at h2; omega
  have hle1 : e1 ≤ L.length := by omega
  clear ha0 he1 hen hnl
  go_enter Tryz.func39, Tryz.ntmps39
  go_upto_region 4 with fail
  go_cut [7] (fun s7 wx => s7 = .bool neg ∧ wx = w)
  case first => as_aux_lemma =>
    rcases AC0.out with ⟨g1, g2⟩ | ⟨b, r, x, g1, g2, g3, g4, g5⟩
    · have g0 : L.length = 0 := by omega
      have HN := hid (show neg = false by rw [← HEN.out, show L = [] from g2, hp_nil])
      go_wp2_with fail
      go_meet
      exact ⟨by rw [HN.out], rfl⟩
    · have g0 : 0 < (L.length : Int) := by omega
      have HN := hid (show neg = (x == 45) by
        rw [← HEN.out, show L = b :: r from g2, hp_cons, g4]
        rw [Bool.eq_iff_iff]; simp; omega)
      rw [show ((0 : Nat) : Int) = 0 from rfl] at g5
      clear g4
      go_wp2_with fail
      go_meet
      exact ⟨by rw [HN.out], rfl⟩
  case rest =>
    obtain ⟨rfl, hwc⟩ := hcut
    subst hwc
    clear AC0 HEN
    go_upto_if 27 with fail
    go_cut [6] (fun s6 wx => s6 = .int .i64 (a0 : Int) ∧ wx = wc)
    case first => as_aux_lemma =>
      cases neg
      · have H0 := hid (show a0 = 0 from HA.out)
        go_wp2_with fail
        go_meet
        exact ⟨by rw [H0.out]; rfl, rfl⟩
      · have H0 := hid (show a0 = 1 from HA.out)
        go_wp2_with fail
        go_meet
        exact ⟨by rw [H0.out]; rfl, rfl⟩
    case rest =>
      obtain ⟨rfl, hwc⟩ := hcut
      subst hwc
      go_upto_region 10 with (go_at_call 109; (with_reducible refine (RN1.out _).mono ?_); rintro en w1 ⟨rfl, rfl⟩)
      go_cut [44] (fun s44 wx => s44 = .bool pt ∧ wx = wc)
      case first => as_aux_lemma =>
        rcases AC1.out with ⟨g1, g2⟩ | ⟨b, r, x, g1, g2, g3, g4, g5⟩
        · have g0 : ¬ e1 < L.length := by omega
          have HN := hid (show pt = false by rw [← ep]; unfold rPt; rw [← hRd, g2, hp_nil])
          go_wp2_with fail
          go_meet
          exact ⟨by rw [HN.out], rfl⟩
        · have HN := hid (show pt = (x == 46) by
            rw [← ep]; unfold rPt; rw [← hRd, g2, hp_cons, g4]
            rw [Bool.eq_iff_iff]; simp; omega)
          clear g4
          go_wp2_with fail
          go_meet
          exact ⟨by rw [HN.out], rfl⟩
      case rest =>
        obtain ⟨rfl, hwc⟩ := hcut
        subst hwc
        obtain ⟨e2, he2⟩ : ∃ e2 : Nat, e2 = if pt = true then e1 + 1 + PA.length else e1 := ⟨_, rfl⟩
        have hAW : W.length + PA.length ≤ 2000 := by
          have h3 := congrArg List.length hT
          have h4 := tk_len T
          rw [eW] at h4
          rw [List.length_drop] at h3; omega
        have ka := add_bs (P := Tryz.prog) W PA (by omega)
        rw [eA] at ka
        have hPt : pt = true → e1 + 1 + PA.length ≤ L.length ∧ L.drop (e1 + 1 + PA.length) = RE ∧ (L.drop (e1 + 1)).take PA.length = PA ∧ e1 + 1 ≤ L.length ∧ (tkD (L.drop (e1 + 1))).length = PA.length := fun h => by
          have h1 : Lib.hasPrefix R [46] = true := by rw [← h, ← ep]; rfl
          have h2 := hp_len h1
          have h3 := congrArg List.length hRd
          rw [List.length_drop] at h3
          have g1 : PA = tkD (R.drop 1) := by rw [← eP]; unfold rPart; rw [ep, if_pos h]
          have g2 : RE = dpD (R.drop 1) := by rw [← eE]; unfold rRest; rw [ep, if_pos h]
          have g3 : L.drop (e1 + 1) = R.drop 1 := by rw [← List.drop_drop, hRd]
          have g4 := tk_len (R.drop 1)
          rw [List.length_drop, ← g1] at g4
          refine ⟨by omega, ?_, ?_, by omega, by rw [g3, ← g1]⟩
          · rw [← List.drop_drop, g3, g1, drop_tk, g2]
          · rw [g3, g1, take_tk]
        have hE2 : e2 ≤ L.length ∧ L.drop e2 = RE := by
          cases hp : pt
          · rw [he2, hp, if_neg (by decide)]
            refine ⟨hle1, ?_⟩
            rw [hRd, ← eE]; unfold rRest; rw [ep, hp]; rfl
          · rw [he2, hp, if_pos rfl]
            exact ⟨(hPt hp).1, (hPt hp).2.1⟩
        have hPA0 : pt = false → PA = [] := fun h => by rw [← eP]; unfold rPart; rw [ep, h]; rfl
        have HE2 := hid he2
        clear he2
        go_upto_if 44 with fail
        go_cut [8, 9, 10] (fun s8 s9 s10 wx => s8 = .int .i64 (e2 : Int) ∧ s9 = .string (bsOf A) ∧ s10 = .int .i64 (PA.length : Int) ∧ wx = wc)
        case first => as_aux_lemma =>
          cases pt
          · have g1 := hPA0 rfl
            have g2 := hid (show e2 = e1 from HE2.out)
            have g3 : A = W := by rw [← eA, g1, List.append_nil]
            have g4 := hid (show PA.length = 0 by rw [g1]; rfl)
            have g5 := hid g3
            clear g1 g3 hPA0
            go_wp2_with fail
            go_meet
            exact ⟨by rw [g2.out], by rw [g5.out], by rw [g4.out]; rfl, rfl⟩
          · obtain ⟨g1, g2, g3, g4, g5⟩ := hPt rfl
            have g6 := hid (show e2 = e1 + 1 + PA.length from HE2.out)
            have RN2 := hid (show ∀ w, Calls Tryz.prog 109 #[.string (bsOf L), .int .i64 ((e1 : Int) + 1)] w fun e w' => e = .returned (.int .i64 ((e1 : Int) + 1 + (PA.length : Int))) ∧ w = w' from fun w => by
              have h := run_any L (e1 + 1) w (by omega) g4
              rw [g5, Int.natCast_add, Int.natCast_add] at h
              exact h)
            have SB : ∀ w, (Instr.slice 9 (.string (bsOf L)) (some (.int .i64 ((e1 : Int) + 1))) (some (.int .i64 ((e1 : Int) + 1 + (PA.length : Int)))) none).run Tryz.prog w = .ok (.string (bsOf PA)) w := fun w => by
              have h := slice_mid (P := Tryz.prog) Tryz.underlying9 L (e1 + 1) (e1 + 1 + PA.length) (by omega) (by omega) w
              rw [show e1 + 1 + PA.length - (e1 + 1) = PA.length by omega, g3] at h
              exact h
            have w1 : IntKind.i64.wrap ((e1 : Int) + 1) = (e1 : Int) + 1 := IntWalk.i64_in _ (by omega)
            have w2 : IntKind.i64.wrap ((e1 : Int) + 1 + (PA.length : Int) - (e1 : Int)) = 1 + (PA.length : Int) := by rw [IntWalk.i64_in _ (by omega)]; omega
            have w3 : IntKind.i64.wrap (1 + (PA.length : Int) - 1) = (PA.length : Int) := by rw [IntWalk.i64_in _ (by omega)]; omega
            generalize PA.length = pl at *
            clear g1 g2 g3 g4 g5 hPA0
            go_wp2_with (go_at_call 109; (with_reducible refine (RN2.out _).mono ?_); rintro en w1 ⟨rfl, rfl⟩)
            go_meet
            exact ⟨by rw [g6.out, Int.natCast_add, Int.natCast_add]; rfl, rfl, rfl, rfl⟩
        case rest =>
          obtain ⟨rfl, rfl, rfl, hwc⟩ := hcut
          subst hwc
          have hexd : ∃ ex, ex = exH RE := ⟨_, rfl⟩
          obtain ⟨ex, hex⟩ := hexd
          have AC2 := hid (at_cases Tryz.prog 9 Tryz.underlying9 L e2)
          clear AC1 RN1 SA hPt
          go_upto_region 16 with fail
          go_cut [76] (fun s76 wx => s76 = .bool ex ∧ wx = wc)
          case first => as_aux_lemma =>
            rcases AC2.out with ⟨g1, g2⟩ | ⟨b, r, x, g1, g2, g3, g4, g5⟩
            · have g0 : ¬ e2 < L.length := by omega
              have HN := hid (show ex = false by rw [hex, ← hE2.2, g2]; rfl)
              clear hex
              go_wp2_with fail
              go_meet
              exact ⟨by rw [HN.out], rfl⟩
            · have HN := hid (show ex = ((x == 101) || (x == 69)) by
                rw [hex, ← hE2.2, g2, g4]
                show isE b = _
                unfold isE
                have t1 : (b == 101) = ((b.toNat : Int) == 101) := by
                  rw [Bool.eq_iff_iff, beq_iff_eq, beq_iff_eq, ← UInt8.toNat_inj]
                  rw [show (101 : UInt8).toNat = 101 from rfl]; omega
                have t2 : (b == 69) = ((b.toNat : Int) == 69) := by
                  rw [Bool.eq_iff_iff, beq_iff_eq, beq_iff_eq, ← UInt8.toNat_inj]
                  rw [show (69 : UInt8).toNat = 69 from rfl]; omega
                rw [t1, t2])
              clear g4 hex
              go_wp2_with fail
              all_goals (go_meet; exact ⟨by rw [HN.out]; try simp_all, rfl⟩)
          case rest =>
            obtain ⟨rfl, hwc⟩ := hcut
            subst hwc
            have yb : Below wc.heap.size wc wc := Below.refl _ _
            cases ex
            · obtain ⟨z1, z2⟩ := exH_no hex.symm
              rw [ek] at z1
              rw [eo] at z2
              have hKv : ok = true → K = 0 := fun _ => z1
              have hEv : e2 = L.length ↔ ok = true := by
                rw [z2, ← hE2.2, List.drop_eq_nil_iff]; omega
              clear z1 z2 hex hE2 hRd hT hPA0 eE ek eo
              have hEv2 : ok = true → (e2 : Int) = (L.length : Int) := fun h => by have := (hEv).2 h; omega
              have hEv3 : ok = false → ¬ (e2 : Int) = (L.length : Int) := fun h h9 => by have := hEv.1 (by omega); rw [h] at this; cases this
              clear hEv
              have hAl : A.length ≤ 2000 := by rw [← eA, List.length_append]; omega
              have hAe : (bsOf A).toList.isEmpty = A.isEmpty := by rw [bs_toList]
              clear eT en eW eR ep eP eA
              cases ok
              · obtain ⟨rfl, rfl, rfl, rfl⟩ := c1 rfl
                have g0 := hEv3 rfl
                clear c1 c2 c3 c4 hEv2 hEv3 hAe hKv
                go_wp2_with fail
                (try simp only [Exit.inBlock, Exit.then]); refine bodyPost_ret (ret4 rfl _ _ _) rfl ?_
                exact ⟨rfl, yb⟩
              · have g0 := hEv2 rfl
                have hKv := hKv rfl
                subst hKv
                clear hEv2 hEv3
                by_cases hA : A = []
                · obtain ⟨rfl, rfl, rfl, rfl⟩ := c2 rfl hA
                  have hAe2 : (bsOf A).toList.isEmpty = true := by rw [hAe, hA]; rfl
                  clear hAe c1 c2 c3 c4 hA
                  go_wp2_with fail
                  (try simp only [Exit.inBlock, Exit.then]); refine bodyPost_ret (ret4 rfl _ _ _) rfl ?_
                  exact ⟨rfl, yb⟩
                · have hAe2 : (bsOf A).toList.isEmpty = false := by rw [hAe]; exact List.isEmpty_eq_false_iff.2 hA
                  replace c3 := c3 rfl hA
                  replace c4 := c4 rfl hA
                  have HC3 := hid c3
                  have HC4 := hid c4
                  have HDD := hid eD
                  have HAL := hid hAl
                  clear hAe c1 c2 c3 c4 hA eD hAl
                  have hwK0 : IntKind.i64.wrap (-(PA.length : Int)) = -(PA.length : Int) := IntWalk.i64_in _ (by omega)
                  have hwK : IntKind.i64.wrap ((0 : Int) - (PA.length : Int)) = (0 : Int) - (PA.length : Int) := IntWalk.i64_in _ (by omega)
                  go_wp2_with fail
                  go_loopw [9] (fun s9 wq => ∃ Q : List UInt8, s9 = .string (bsOf Q) ∧ Q.length ≤ 2000 ∧ (Q.dropWhile fun b => b == 48) = D ∧ wq = wc) (fun s9 _ => strSz s9)
                  case atStart => exact ⟨A, rfl, HAL.out, HDD.out, rfl⟩
                  case round =>
                    obtain ⟨Q, rfl, hq, hQ, rfl⟩ := hrel
                    obtain ⟨hp, hhp⟩ : ∃ hp, hp = Lib.hasPrefix Q [48] := ⟨_, rfl⟩
                    have HP := hid (show ∀ w, Calls Tryz.prog 110 #[.string (bsOf Q), .string ⟨#[48]⟩] w fun e w' => e = .returned (.bool hp) ∧ w' = w from fun w => by
                      have h := Tryz.strings_HasPrefix (bsOf Q) ⟨#[48]⟩ w
                      rw [bs_list] at h; rw [hhp]; exact h)
                    cases hp
                    · have e : Q = D := by
                        rw [← hQ]
                        cases Q with
                        | nil => rfl
                        | cons b r =>
                          rw [hp_cons] at hhp
                          have h9 : ¬ b.toNat = (48 : UInt8).toNat := of_decide_eq_false hhp.symm
                          rw [List.dropWhile_cons_of_neg (by intro h; exact h9 (by rw [beq_iff_eq.1 h]))]
                      subst e
                      clear hQ hhp HDD HAL
                      by_cases hD : Q = []
                      · have hde : (bsOf Q).toList.isEmpty = true := by rw [bs_toList, hD]; rfl
                        obtain ⟨rfl, rfl, rfl, rfl⟩ := HC3.out hD
                        clear hD HC3 HC4
                        go_wp2_with (go_at_call 110; (with_reducible refine (HP.out _).mono ?_); rintro en w1 ⟨rfl, rfl⟩)
                        (try simp only [Exit.inBlock, Exit.then]); refine bodyPost_ret (ret4 rfl _ _ _) rfl ?_
                        exact ⟨rfl, yb⟩
                      · have hde : (bsOf Q).toList.isEmpty = false := by rw [bs_toList]; exact List.isEmpty_eq_false_iff.2 hD
                        obtain ⟨rfl, rfl, rfl, rfl⟩ := HC4.out hD
                        clear hD HC3 HC4
                        go_wp2_with (go_at_call 110; (with_reducible refine (HP.out _).mono ?_); rintro en w1 ⟨rfl, rfl⟩)
                        (try simp only [Exit.inBlock, Exit.then]); refine bodyPost_ret (ret4 rfl _ _ _) rfl ?_
                        exact ⟨by first | rfl | (rw [Int.zero_sub]; rfl), yb⟩
                    · obtain ⟨r, hr⟩ : ∃ r, Q = 48 :: r := by
                        cases Q with
                        | nil => rw [hp_nil] at hhp; cases hhp
                        | cons b r =>
                          rw [hp_cons] at hhp
                          have h9 : b.toNat = (48 : UInt8).toNat := of_decide_eq_true hhp.symm
                          exact ⟨r, by rw [UInt8.toNat_inj.1 h9]⟩
                      have hql : Q.length = r.length + 1 := by rw [hr, List.length_cons]
                      have hsl := slice_from (P := Tryz.prog) Tryz.underlying9 Q 1 (by omega) (by omega)
                      rw [show Q.drop (1 : Int).toNat = r by rw [hr]; rfl] at hsl
                      have HQ := hid (show (r.dropWhile fun b => b == 48) = D by rw [← hQ, hr, List.dropWhile_cons_of_pos (by rfl)])
                      have hrl : r.length ≤ 2000 := by omega
                      have HM := hid (show r.length < Q.length by omega)
                      clear hQ hhp hr hql
                      go_wp2_with (go_at_call 110; (with_reducible refine (HP.out _).mono ?_); rintro en w1 ⟨rfl, rfl⟩)
                      go_roundw
                      case rel => exact ⟨r, rfl, hrl, HQ.out, by first | rfl | trivial⟩
                      case measure => rw [strSz_bs, strSz_bs]; exact HM.out
            · obtain ⟨c, r, hRE, hEc⟩ : ∃ c r, RE = c :: r ∧ isE c = true := by
                cases RE with
                | nil => exact absurd hex (by simp [exH])
                | cons c r => exact ⟨c, r, rfl, hex.symm⟩
              have hK : xpV r = K := by rw [← ek, hRE]; show _ = (if isE c = true then xpV r else 0); rw [if_pos hEc]
              have hO : okX (sgS r) = ok := by rw [← eo, hRE]; show _ = (isE c && okX (sgS r)); rw [hEc]; rfl
              obtain ⟨d1, d2, -⟩ := drop_cons (hE2.2.trans hRE)
              clear hex hEc hE2 hRd hT hPA0 AC2 eE ek eo
              obtain ⟨mn, hmn⟩ : ∃ mn, mn = sgnP r := ⟨_, rfl⟩
              obtain ⟨sg9, hsg⟩ : ∃ sg9, sg9 = (sgnP r || Lib.hasPrefix r [43]) := ⟨_, rfl⟩
              have AC3 := hid (at_cases Tryz.prog 9 Tryz.underlying9 L (e2 + 1))
              rw [show ((e2 + 1 : Nat) : Int) = (e2 : Int) + 1 from rfl] at AC3
              have we : IntKind.i64.wrap ((e2 : Int) + 1) = (e2 : Int) + 1 := IntWalk.i64_in _ (by omega)
              go_upto_region 18 with fail
              go_cut [13] (fun s13 wx => s13 = .bool mn ∧ wx = wc)
              case first => as_aux_lemma =>
                rcases AC3.out with ⟨g1, g2⟩ | ⟨b, r9, x, g1, g2, g3, g4, g5⟩
                · have g0 : ¬ (e2 : Int) + 1 < L.length := by omega
                  have HN := hid (show mn = false by rw [hmn, ← d2, g2]; exact hp_nil _)
                  clear hmn hsg
                  go_wp2_with fail
                  go_meet
                  exact ⟨by rw [HN.out], rfl⟩
                · have g0 : (e2 : Int) + 1 < L.length := by omega
                  have HN := hid (show mn = (x == 45) by
                    rw [hmn, ← d2, g2]; unfold sgnP; rw [hp_cons, g4]
                    rw [Bool.eq_iff_iff]; simp; omega)
                  clear g4 hmn hsg
                  go_wp2_with fail
                  go_meet
                  exact ⟨by rw [HN.out], rfl⟩
              case rest =>
                obtain ⟨rfl, hwc⟩ := hcut
                subst hwc
                go_upto_region 19 with fail
                go_cut [104] (fun s104 wx => s104 = .bool sg9 ∧ wx = wc)
                case first => as_aux_lemma =>
                  rcases AC3.out with ⟨g1, g2⟩ | ⟨b, r9, x, g1, g2, g3, g4, g5⟩
                  · have g0 : ¬ (e2 : Int) + 1 < L.length := by omega
                    have HN := hid (show sg9 = false by rw [hsg, ← d2, g2]; unfold sgnP; rw [hp_nil, hp_nil]; rfl)
                    clear hmn hsg
                    go_wp2_with fail
                    go_meet
                    exact ⟨by rw [HN.out], rfl⟩
                  · have g0 : (e2 : Int) + 1 < L.length := by omega
                    have HN := hid (show sg9 = ((x == 45) || (x == 43)) by
                      rw [hsg, ← d2, g2]; unfold sgnP; rw [hp_cons, hp_cons, g4]
                      rw [Bool.eq_iff_iff]; simp; omega)
                    clear g4 hmn hsg
                    go_wp2_with fail
                    all_goals (go_meet; exact ⟨by rw [HN.out]; try simp_all, rfl⟩)
                case rest =>
                  obtain ⟨rfl, hwc⟩ := hcut
                  subst hwc
                  obtain ⟨a3, ha3⟩ : ∃ a3 : Nat, a3 = if sg9 = true then e2 + 1 + 1 else e2 + 1 := ⟨_, rfl⟩
                  obtain ⟨S, hS⟩ : ∃ S, S = sgS r := ⟨_, rfl⟩
                  have hSd : a3 ≤ L.length ∧ L.drop a3 = S := by
                    rw [hS]; unfold sgS
                    rw [← hsg]
                    cases h9 : sg9
                    · rw [ha3, h9]; exact ⟨d1, d2⟩
                    · rw [ha3, h9, if_pos rfl, if_pos rfl]
                      have h8 : 1 ≤ r.length := by
                        rw [h9] at hsg
                        rcases Bool.or_eq_true _ _ |>.mp hsg.symm with h2 | h2
                        · exact hp_len h2
                        · exact hp_len h2
                      have h7 := congrArg List.length d2
                      rw [List.length_drop] at h7
                      refine ⟨by omega, ?_⟩
                      rw [← List.drop_drop, d2]
                  have HA3 := hid ha3
                  have HMN := hid hmn
                  clear ha3 hsg AC3 hmn
                  go_upto_if 104 with fail
                  go_cut [6] (fun s6 wx => s6 = .int .i64 (a3 : Int) ∧ wx = wc)
                  case first => as_aux_lemma =>
                    cases sg9
                    · have h9 := hid (show a3 = e2 + 1 from HA3.out)
                      go_wp2_with fail
                      go_meet
                      exact ⟨by rw [h9.out]; rfl, rfl⟩
                    · have h9 := hid (show a3 = e2 + 1 + 1 from HA3.out)
                      have we2 : IntKind.i64.wrap ((e2 : Int) + 1 + 1) = (e2 : Int) + 1 + 1 := IntWalk.i64_in _ (by omega)
                      go_wp2_with fail
                      go_meet
                      exact ⟨by rw [h9.out]; rfl, rfl⟩
                  case rest =>
                    obtain ⟨rfl, hwc⟩ := hcut
                    subst hwc
                    obtain ⟨n, hn⟩ : ∃ n, n = (tkD S).length := ⟨_, rfl⟩
                    have hnm := tk_len S
                    have hSl := congrArg List.length hSd.2
                    rw [List.length_drop] at hSl
                    have hok2 : ok = decide (1 ≤ n ∧ n ≤ 6 ∧ n = S.length) := by rw [← hO, ← hS]; unfold okX; rw [hn]
                    have RN3 := hid (show ∀ w, Calls Tryz.prog 109 #[.string (bsOf L), .int .i64 (a3 : Int)] w fun e w' => e = .returned (.int .i64 ((a3 : Int) + (n : Int))) ∧ w = w' from fun w => by
                      have h := run_any L a3 w (by omega) hSd.1
                      rw [hSd.2, ← hn] at h
                      exact h)
                    rw [← hn] at hnm
                    have wn : IntKind.i64.wrap ((a3 : Int) + (n : Int) - (a3 : Int)) = (n : Int) := by rw [IntWalk.i64_in _ (by omega)]; omega
                    have BT := hid (fun w => between_any (n : Int) 1 6 w)
                    by_cases h16 : 1 ≤ n ∧ n ≤ 6
                    · rw [decide_eq_true (show (1 : Int) ≤ (n : Int) ∧ (n : Int) ≤ 6 by omega)] at BT
                      have hKd : ok = true → K = if mn = true then -((dvl S : Nat) : Int) else ((dvl S : Nat) : Int) := fun h => by
                        rw [← hK]; unfold xpV; rw [hO, if_pos h, ← hS, HMN.out]
                      have SC := slice_mid (P := Tryz.prog) Tryz.underlying9 L a3 (a3 + n) (by omega) (by omega)
                      rw [hSd.2, show a3 + n - a3 = n by omega, hn, take_tk, Int.natCast_add, ← hn] at SC
                      obtain ⟨N, hN⟩ : ∃ N, N = tkD S := ⟨_, rfl⟩
                      have hNd : AllDg N := by rw [hN]; exact all_tk S
                      rw [← hN] at SC hn
                      have hcv := Lib.run_convert_string_bytes (P := Tryz.prog) wc 9 141 5 (bsOf N) (u := .string) Tryz.underlying9 Tryz.underlying141 Tryz.underlying5
                      have hB : ∀ j b r, N.drop j = b :: r → (Lib.bytesWorld wc 5 (bsOf N)).cell? ⟨wc.heap.size, j, none⟩ = some (.int .u8 (b.toNat : Int)) := fun j b r h => by
                        obtain ⟨q1, -, q3⟩ := drop_cons h
                        have h9 := Lib.bytesWorld_cell wc 5 (bsOf N) j (by rw [bs_size]; exact q1)
                        rw [bs_list, q3] at h9
                        exact h9
                      have yb2 := Lib.bytesWorld_below wc 5 (bsOf N)
                      have hsN := bs_size N
                      rw [← hn] at hsN
                      rw [hsN] at hcv
                      obtain ⟨W2, hW2⟩ : ∃ W2, W2 = Lib.bytesWorld wc 5 (bsOf N) := ⟨_, rfl⟩
                      rw [← hW2] at hcv hB yb2
                      generalize grownCap wc n 0 5 = gc at *
                      have hEv : a3 + n = L.length ↔ ok = true := by rw [hok2, decide_eq_true_iff]; omega
                      obtain ⟨V, hV⟩ : ∃ V, V = dvl N := ⟨_, rfl⟩
                      have hVb : V < 1000000 := by
                        have h1 := dvl_lt N hNd
                        have h2 : 10 ^ N.length ≤ 10 ^ 6 := Nat.pow_le_pow_right (by omega) (by omega)
                        rw [← hV] at h1; omega
                      have hKe : ok = true → K = if mn = true then -(V : Int) else (V : Int) := fun h => by
                        have h1 := hEv.2 h
                        have h2 : N = S := by
                          have h3 := take_tk S
                          rw [← hN, ← hn, List.take_of_length_le (by omega)] at h3
                          exact h3.symm
                        rw [hKd h, hV, h2]
                      have HEv := hid hEv
                      have HKe := hid hKe
                      have HV := hid hV
                      have HNL := hid hn
                      have hcap : IntKind.i64.wrap (-(V : Int)) = -(V : Int) := IntWalk.i64_in _ (by omega)
                      clear hok2 hnm hSl hSd hS hW2 hKd hEv hKe hV hN hsN hO hK hn
                      go_wp2_with (first
                        | (go_at_call 109; (with_reducible refine (RN3.out _).mono ?_); rintro en w1 ⟨rfl, rfl⟩)
                        | (go_at_call 40; (with_reducible refine (BT.out _).mono ?_); rintro en w1 ⟨rfl, rfl⟩))
                      go_loopw [12, 121] (fun s12 s121 wr => ∃ (j acc : Nat), s12 = .int .i64 (acc : Int) ∧ s121 = .int .i64 (j : Int) ∧ j ≤ n ∧ dvA acc (N.drop j) = V ∧ acc ≤ 1000000 ∧ wr = W2) (fun _ s121 _ => n - (intOf s121).toNat)
                      case atStart => exact ⟨0, 0, rfl, rfl, by omega, HV.out.symm, by omega, rfl⟩
                      case round =>
                        obtain ⟨j, acc, rfl, rfl, hj, hacc, hab, rfl⟩ := hrel
                        have hNL := HNL.out
                        cases hd : N.drop j with
                        | nil =>
                          have g1 : ¬ (j : Int) < (n : Int) := by
                            have := congrArg List.length hd
                            rw [List.length_drop, List.length_nil] at this; omega
                          rw [hd] at hacc
                          have e : acc = V := hacc
                          subst e
                          have hEv := HEv.out
                          have yb3 := yb2
                          clear hacc hd hB hNL yb
                          have yb := yb3
                          clear yb3
                          cases mn
                          · have hKv : ok = true → K = (acc : Int) := fun h => HKe.out h
                            clear HKe HMN
                            have hEv2 : ok = true → ((a3 : Int) + (n : Int) : Int) = (L.length : Int) := fun h => by have := (hEv).2 h; omega
                            have hEv3 : ok = false → ¬ ((a3 : Int) + (n : Int) : Int) = (L.length : Int) := fun h h9 => by have := hEv.1 (by omega); rw [h] at this; cases this
                            clear hEv
                            have hAl : A.length ≤ 2000 := by rw [← eA, List.length_append]; omega
                            have hAe : (bsOf A).toList.isEmpty = A.isEmpty := by rw [bs_toList]
                            clear eT en eW eR ep eP eA
                            cases ok
                            · obtain ⟨rfl, rfl, rfl, rfl⟩ := c1 rfl
                              have g0 := hEv3 rfl
                              clear c1 c2 c3 c4 hEv2 hEv3 hAe hKv
                              go_wp2_with fail
                              (try simp only [Exit.inBlock, Exit.then]); refine bodyPost_ret (ret4 rfl _ _ _) rfl ?_
                              exact ⟨rfl, yb⟩
                            · have g0 := hEv2 rfl
                              have hKv := hKv rfl
                              subst hKv
                              clear hEv2 hEv3
                              by_cases hA : A = []
                              · obtain ⟨rfl, rfl, rfl, rfl⟩ := c2 rfl hA
                                have hAe2 : (bsOf A).toList.isEmpty = true := by rw [hAe, hA]; rfl
                                clear hAe c1 c2 c3 c4 hA
                                go_wp2_with fail
                                (try simp only [Exit.inBlock, Exit.then]); refine bodyPost_ret (ret4 rfl _ _ _) rfl ?_
                                exact ⟨rfl, yb⟩
                              · have hAe2 : (bsOf A).toList.isEmpty = false := by rw [hAe]; exact List.isEmpty_eq_false_iff.2 hA
                                replace c3 := c3 rfl hA
                                replace c4 := c4 rfl hA
                                have HC3 := hid c3
                                have HC4 := hid c4
                                have HDD := hid eD
                                have HAL := hid hAl
                                clear hAe c1 c2 c3 c4 hA eD hAl
                                have hwK0 : IntKind.i64.wrap (-(PA.length : Int)) = -(PA.length : Int) := IntWalk.i64_in _ (by omega)
                                have hwK : IntKind.i64.wrap ((acc : Int) - (PA.length : Int)) = (acc : Int) - (PA.length : Int) := IntWalk.i64_in _ (by omega)
                                go_wp2_with fail
                                go_loopw [9] (fun s9 wq => ∃ Q : List UInt8, s9 = .string (bsOf Q) ∧ Q.length ≤ 2000 ∧ (Q.dropWhile fun b => b == 48) = D ∧ wq = wr) (fun s9 _ => strSz s9)
                                case atStart => exact ⟨A, rfl, HAL.out, HDD.out, rfl⟩
                                case round =>
                                  obtain ⟨Q, rfl, hq, hQ, rfl⟩ := hrel
                                  obtain ⟨hp, hhp⟩ : ∃ hp, hp = Lib.hasPrefix Q [48] := ⟨_, rfl⟩
                                  have HP := hid (show ∀ w, Calls Tryz.prog 110 #[.string (bsOf Q), .string ⟨#[48]⟩] w fun e w' => e = .returned (.bool hp) ∧ w' = w from fun w => by
                                    have h := Tryz.strings_HasPrefix (bsOf Q) ⟨#[48]⟩ w
                                    rw [bs_list] at h; rw [hhp]; exact h)
                                  cases hp
                                  · have e : Q = D := by
                                      rw [← hQ]
                                      cases Q with
                                      | nil => rfl
                                      | cons b r =>
                                        rw [hp_cons] at hhp
                                        have h9 : ¬ b.toNat = (48 : UInt8).toNat := of_decide_eq_false hhp.symm
                                        rw [List.dropWhile_cons_of_neg (by intro h; exact h9 (by rw [beq_iff_eq.1 h]))]
                                    subst e
                                    clear hQ hhp HDD HAL
                                    by_cases hD : Q = []
                                    · have hde : (bsOf Q).toList.isEmpty = true := by rw [bs_toList, hD]; rfl
                                      obtain ⟨rfl, rfl, rfl, rfl⟩ := HC3.out hD
                                      clear hD HC3 HC4
                                      go_wp2_with (go_at_call 110; (with_reducible refine (HP.out _).mono ?_); rintro en w1 ⟨rfl, rfl⟩)
                                      (try simp only [Exit.inBlock, Exit.then]); refine bodyPost_ret (ret4 rfl _ _ _) rfl ?_
                                      exact ⟨rfl, yb⟩
                                    · have hde : (bsOf Q).toList.isEmpty = false := by rw [bs_toList]; exact List.isEmpty_eq_false_iff.2 hD
                                      obtain ⟨rfl, rfl, rfl, rfl⟩ := HC4.out hD
                                      clear hD HC3 HC4
                                      go_wp2_with (go_at_call 110; (with_reducible refine (HP.out _).mono ?_); rintro en w1 ⟨rfl, rfl⟩)
                                      (try simp only [Exit.inBlock, Exit.then]); refine bodyPost_ret (ret4 rfl _ _ _) rfl ?_
                                      exact ⟨by first | rfl | (rw [Int.zero_sub]; rfl), yb⟩
                                  · obtain ⟨r, hr⟩ : ∃ r, Q = 48 :: r := by
                                      cases Q with
                                      | nil => rw [hp_nil] at hhp; cases hhp
                                      | cons b r =>
                                        rw [hp_cons] at hhp
                                        have h9 : b.toNat = (48 : UInt8).toNat := of_decide_eq_true hhp.symm
                                        exact ⟨r, by rw [UInt8.toNat_inj.1 h9]⟩
                                    have hql : Q.length = r.length + 1 := by rw [hr, List.length_cons]
                                    have hsl := slice_from (P := Tryz.prog) Tryz.underlying9 Q 1 (by omega) (by omega)
                                    rw [show Q.drop (1 : Int).toNat = r by rw [hr]; rfl] at hsl
                                    have HQ := hid (show (r.dropWhile fun b => b == 48) = D by rw [← hQ, hr, List.dropWhile_cons_of_pos (by rfl)])
                                    have hrl : r.length ≤ 2000 := by omega
                                    have HM := hid (show r.length < Q.length by omega)
                                    clear hQ hhp hr hql
                                    go_wp2_with (go_at_call 110; (with_reducible refine (HP.out _).mono ?_); rintro en w1 ⟨rfl, rfl⟩)
                                    go_roundw
                                    case rel => exact ⟨r, rfl, hrl, HQ.out, by first | rfl | trivial⟩
                                    case measure => rw [strSz_bs, strSz_bs]; exact HM.out
                          · have hKv : ok = true → K = -(acc : Int) := fun h => HKe.out h
                            clear HKe HMN
                            have hEv2 : ok = true → ((a3 : Int) + (n : Int) : Int) = (L.length : Int) := fun h => by have := (hEv).2 h; omega
                            have hEv3 : ok = false → ¬ ((a3 : Int) + (n : Int) : Int) = (L.length : Int) := fun h h9 => by have := hEv.1 (by omega); rw [h] at this; cases this
                            clear hEv
                            have hAl : A.length ≤ 2000 := by rw [← eA, List.length_append]; omega
                            have hAe : (bsOf A).toList.isEmpty = A.isEmpty := by rw [bs_toList]
                            clear eT en eW eR ep eP eA
                            cases ok
                            · obtain ⟨rfl, rfl, rfl, rfl⟩ := c1 rfl
                              have g0 := hEv3 rfl
                              clear c1 c2 c3 c4 hEv2 hEv3 hAe hKv
                              go_wp2_with fail
                              (try simp only [Exit.inBlock, Exit.then]); refine bodyPost_ret (ret4 rfl _ _ _) rfl ?_
                              exact ⟨rfl, yb⟩
                            · have g0 := hEv2 rfl
                              have hKv := hKv rfl
                              subst hKv
                              clear hEv2 hEv3
                              by_cases hA : A = []
                              · obtain ⟨rfl, rfl, rfl, rfl⟩ := c2 rfl hA
                                have hAe2 : (bsOf A).toList.isEmpty = true := by rw [hAe, hA]; rfl
                                clear hAe c1 c2 c3 c4 hA
                                go_wp2_with fail
                                (try simp only [Exit.inBlock, Exit.then]); refine bodyPost_ret (ret4 rfl _ _ _) rfl ?_
                                exact ⟨rfl, yb⟩
                              · have hAe2 : (bsOf A).toList.isEmpty = false := by rw [hAe]; exact List.isEmpty_eq_false_iff.2 hA
                                replace c3 := c3 rfl hA
                                replace c4 := c4 rfl hA
                                have HC3 := hid c3
                                have HC4 := hid c4
                                have HDD := hid eD
                                have HAL := hid hAl
                                clear hAe c1 c2 c3 c4 hA eD hAl
                                have hwK0 : IntKind.i64.wrap (-(PA.length : Int)) = -(PA.length : Int) := IntWalk.i64_in _ (by omega)
                                have hwK : IntKind.i64.wrap ((-(acc : Int) : Int) - (PA.length : Int)) = (-(acc : Int) : Int) - (PA.length : Int) := IntWalk.i64_in _ (by omega)
                                go_wp2_with fail
                                go_loopw [9] (fun s9 wq => ∃ Q : List UInt8, s9 = .string (bsOf Q) ∧ Q.length ≤ 2000 ∧ (Q.dropWhile fun b => b == 48) = D ∧ wq = wr) (fun s9 _ => strSz s9)
                                case atStart => exact ⟨A, rfl, HAL.out, HDD.out, rfl⟩
                                case round =>
                                  obtain ⟨Q, rfl, hq, hQ, rfl⟩ := hrel
                                  obtain ⟨hp, hhp⟩ : ∃ hp, hp = Lib.hasPrefix Q [48] := ⟨_, rfl⟩
                                  have HP := hid (show ∀ w, Calls Tryz.prog 110 #[.string (bsOf Q), .string ⟨#[48]⟩] w fun e w' => e = .returned (.bool hp) ∧ w' = w from fun w => by
                                    have h := Tryz.strings_HasPrefix (bsOf Q) ⟨#[48]⟩ w
                                    rw [bs_list] at h; rw [hhp]; exact h)
                                  cases hp
                                  · have e : Q = D := by
                                      rw [← hQ]
                                      cases Q with
                                      | nil => rfl
                                      | cons b r =>
                                        rw [hp_cons] at hhp
                                        have h9 : ¬ b.toNat = (48 : UInt8).toNat := of_decide_eq_false hhp.symm
                                        rw [List.dropWhile_cons_of_neg (by intro h; exact h9 (by rw [beq_iff_eq.1 h]))]
                                    subst e
                                    clear hQ hhp HDD HAL
                                    by_cases hD : Q = []
                                    · have hde : (bsOf Q).toList.isEmpty = true := by rw [bs_toList, hD]; rfl
                                      obtain ⟨rfl, rfl, rfl, rfl⟩ := HC3.out hD
                                      clear hD HC3 HC4
                                      go_wp2_with (go_at_call 110; (with_reducible refine (HP.out _).mono ?_); rintro en w1 ⟨rfl, rfl⟩)
                                      (try simp only [Exit.inBlock, Exit.then]); refine bodyPost_ret (ret4 rfl _ _ _) rfl ?_
                                      exact ⟨rfl, yb⟩
                                    · have hde : (bsOf Q).toList.isEmpty = false := by rw [bs_toList]; exact List.isEmpty_eq_false_iff.2 hD
                                      obtain ⟨rfl, rfl, rfl, rfl⟩ := HC4.out hD
                                      clear hD HC3 HC4
                                      go_wp2_with (go_at_call 110; (with_reducible refine (HP.out _).mono ?_); rintro en w1 ⟨rfl, rfl⟩)
                                      (try simp only [Exit.inBlock, Exit.then]); refine bodyPost_ret (ret4 rfl _ _ _) rfl ?_
                                      exact ⟨by first | rfl | (rw [Int.zero_sub]; rfl), yb⟩
                                  · obtain ⟨r, hr⟩ : ∃ r, Q = 48 :: r := by
                                      cases Q with
                                      | nil => rw [hp_nil] at hhp; cases hhp
                                      | cons b r =>
                                        rw [hp_cons] at hhp
                                        have h9 : b.toNat = (48 : UInt8).toNat := of_decide_eq_true hhp.symm
                                        exact ⟨r, by rw [UInt8.toNat_inj.1 h9]⟩
                                    have hql : Q.length = r.length + 1 := by rw [hr, List.length_cons]
                                    have hsl := slice_from (P := Tryz.prog) Tryz.underlying9 Q 1 (by omega) (by omega)
                                    rw [show Q.drop (1 : Int).toNat = r by rw [hr]; rfl] at hsl
                                    have HQ := hid (show (r.dropWhile fun b => b == 48) = D by rw [← hQ, hr, List.dropWhile_cons_of_pos (by rfl)])
                                    have hrl : r.length ≤ 2000 := by omega
                                    have HM := hid (show r.length < Q.length by omega)
                                    clear hQ hhp hr hql
                                    go_wp2_with (go_at_call 110; (with_reducible refine (HP.out _).mono ?_); rintro en w1 ⟨rfl, rfl⟩)
                                    go_roundw
                                    case rel => exact ⟨r, rfl, hrl, HQ.out, by first | rfl | trivial⟩
                                    case measure => rw [strSz_bs, strSz_bs]; exact HM.out
                        | cons b r =>
                          obtain ⟨q1, q2, -⟩ := drop_cons hd
                          have hc := hB j b r hd
                          have hbd := dg_bd (hNd b (List.mem_of_mem_drop (by rw [hd]; exact List.mem_cons_self ..)))
                          rw [hd, dvA_cons] at hacc
                          have g1 : (j : Int) < (n : Int) := by omega
                          have hlt : acc * 10 + (b.toNat - 48) ≤ 1000000 := by
                            have h1 := dvA_acc r (acc * 10 + (b.toNat - 48))
                            have h2 : (acc * 10 + (b.toNat - 48)) * 1 ≤ (acc * 10 + (b.toNat - 48)) * 10 ^ r.length := Nat.mul_le_mul_left _ (Nat.pow_pos (by omega))
                            omega
                          have HR := hid (show dvA (acc * 10 + (b.toNat - 48)) (N.drop (j + 1)) = V by rw [q2]; exact hacc)
                          obtain ⟨y, hy⟩ : ∃ y : Nat, y = acc * 10 + (b.toNat - 48) := ⟨_, rfl⟩
                          have wA : IntKind.i64.wrap (10 * (acc : Int)) = 10 * (acc : Int) := IntWalk.i64_in _ (by omega)
                          obtain ⟨x, hx⟩ : ∃ x : Int, x = (b.toNat : Int) := ⟨_, rfl⟩
                          have wB : IntKind.u8.wrap (x - 48) = x - 48 := by rw [IntKind.wrap_u8]; omega
                          have wC : IntKind.i64.wrap (x - 48) = x - 48 := IntWalk.i64_in _ (by omega)
                          have wD : IntKind.i64.wrap (10 * (acc : Int) + (x - 48)) = (y : Int) := by rw [IntWalk.i64_in _ (by omega)]; omega
                          have wI : IntKind.i64.wrap ((j : Int) + 1) = (j : Int) + 1 := IntWalk.i64_in _ (by omega)
                          rw [← hx] at hc
                          rw [← hy] at HR hlt
                          have hjn : j + 1 ≤ n := by omega
                          clear hd hB hacc hx hy q1 q2 hbd hNL HKe HEv HMN
                          go_wp2_with fail
                          go_roundw
                          case rel => exact ⟨j + 1, y, rfl, by go_num, hjn, HR.out, hlt, by first | rfl | trivial⟩
                          case measure => simp [intOf]; omega
                    · rw [decide_eq_false (show ¬ ((1 : Int) ≤ (n : Int) ∧ (n : Int) ≤ 6) by omega)] at BT
                      obtain ⟨rfl, rfl, rfl, rfl⟩ := c1 (by rw [hok2]; exact decide_eq_false (fun h => h16 ⟨h.1, h.2.1⟩))
                      clear hok2 c1 c2 c3 c4 hn hnm hSl hSd hS
                      go_wp2_with (first
                        | (go_at_call 109; (with_reducible refine (RN3.out _).mono ?_); rintro en w1 ⟨rfl, rfl⟩)
                        | (go_at_call 40; (with_reducible refine (BT.out _).mono ?_); rintro en w1 ⟨rfl, rfl⟩))
                      (try simp only [Exit.inBlock, Exit.then]); refine bodyPost_ret (ret4 rfl _ _ _) rfl ?_
                      exact ⟨rfl, yb⟩
theorem readText_any (L : List UInt8) (w : World) (hl : L.length ≤ 9223372036854775807) :
    Calls Tryz.prog 39 #[.string (bsOf L)] w (RetPz (rdN L) (rdD L) (rdK L) (rdE L) w) := by
  by_cases h : 1000 < L.length
  · have e1 : rdE L = 2 := by unfold rdE; rw [if_pos h]
    have h9 := text_long L w h hl
    unfold rdN rdD rdK
    rw [e1, if_neg (by omega), if_neg (by omega), if_neg (by omega)]
    exact h9
  · have e1 : rdE L = if pwO (rPw L) = false ∨ rAll L = [] then 5 else 0 := by unfold rdE; rw [if_neg h]
    refine text_core L (rdT L) (tkD (rdT L)) (dpD (rdT L)) (rPart (dpD (rdT L))) (rPw L) (rAll L) (rD L) _ _ _ _ _ _ _ _ w (by omega) rfl rfl rfl rfl rfl rfl rfl rfl rfl rfl rfl ?_ ?_ ?_ ?_
    · intro h1
      have e2 : rdE L = 5 := by rw [e1, if_pos (.inl h1)]
      unfold rdN rdD rdK
      rw [e2, if_neg (by omega), if_neg (by omega), if_neg (by omega)]
      exact ⟨rfl, rfl, rfl, rfl⟩
    · intro _ h1
      have e2 : rdE L = 5 := by rw [e1, if_pos (.inr h1)]
      unfold rdN rdD rdK
      rw [e2, if_neg (by omega), if_neg (by omega), if_neg (by omega)]
      exact ⟨rfl, rfl, rfl, rfl⟩
    · intro h1 h2 h3
      have e2 : rdE L = 0 := by rw [e1, if_neg (fun h9 => h9.elim (fun h => by rw [h1] at h; cases h) h2)]
      unfold rdN rdD rdK
      rw [e2, if_pos rfl, if_pos rfl, if_neg (fun h => h.2 h3)]
      exact ⟨rfl, h3, rfl, rfl⟩
    · intro h1 h2 h3
      have e2 : rdE L = 0 := by rw [e1, if_neg (fun h9 => h9.elim (fun h => by rw [h1] at h; cases h) h2)]
      unfold rdN rdD rdK
      rw [e2, if_pos rfl, if_pos rfl, if_pos ⟨rfl, h3⟩]
      exact ⟨rfl, rfl, rfl, rfl⟩
end Go.Proofs.YthaelmnblgollaaGreatDoor
