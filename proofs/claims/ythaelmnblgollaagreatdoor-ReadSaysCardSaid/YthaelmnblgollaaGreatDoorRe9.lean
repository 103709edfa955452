/- The reference's run of digits. -/
import Derived.Test.YthaelmnblgollaaGreatDoorRe3
import Derived.Test.YthaelmnblgollaaGreatDoorFloat
set_option linter.unusedVariables false
set_option linter.unusedSimpArgs false
namespace Go.Ulp
open Go.RowKit
/-- the text behind a minus -/
def rdT (L : List UInt8) : List UInt8 := Lib.trimPrefix L [45]
/-- the digits behind a point, and what is behind them -/
def rPt (R : List UInt8) : Bool := Lib.hasPrefix R [46]
def rPart (R : List UInt8) : List UInt8 := if rPt R = true then tkD (R.drop 1) else []
def rRest (R : List UInt8) : List UInt8 := if rPt R = true then dpD (R.drop 1) else R
def rAll (L : List UInt8) : List UInt8 := tkD (rdT L) ++ rPart (dpD (rdT L))
def rPw (L : List UInt8) : List UInt8 := rRest (dpD (rdT L))
def rD (L : List UInt8) : List UInt8 := (rAll L).dropWhile fun b => b == 48
/-- sign, digits, exponent and error -/
def rdE (L : List UInt8) : Int := if 1000 < L.length then 2 else if pwO (rPw L) = false ∨ rAll L = [] then 5 else 0
def rdN (L : List UInt8) : Bool := if rdE L = 0 then Lib.hasPrefix L [45] else false
def rdD (L : List UInt8) : List UInt8 := if rdE L = 0 then rD L else []
def rdK (L : List UInt8) : Int := if rdE L = 0 ∧ rD L ≠ [] then pwV (rPw L) - ((rPart (dpD (rdT L))).length : Int) else 0
theorem trimPrefix_len (L p : List UInt8) : (Lib.trimPrefix L p).length ≤ L.length := by unfold Lib.trimPrefix; split <;> simp
theorem trimPrefix_one (R : List UInt8) (c : UInt8) : Lib.trimPrefix R [c] = if Lib.hasPrefix R [c] = true then R.drop 1 else R := rfl
def RetPz (n : Bool) (D : List UInt8) (k x : Int) (w : World) (e : Ending) (w' : World) : Prop := e = .returned (.tuple #[.bool n, .string (bsOf D), .int .i64 k, .int .i64 x]) ∧ Below w.heap.size w w'
theorem ret4 {fn : Func} {t u v x : Tmp} (h : fn.results = #[.tmp t, .tmp u, .tmp v, .tmp x]) (tmps : Array Value) (P : Program) (w : World) :
    (results fn tmps).run P w = .ok (.tuple #[tmps.getD t undef, tmps.getD u undef, tmps.getD v undef, tmps.getD x undef]) w := by
  simp [results, h]
end Go.Ulp
namespace Go.Proofs.YthaelmnblgollaaGreatDoor
open Go.RowKit Go.Ulp
set_option linter.unusedVariables false
set_option linter.unusedSimpArgs false
set_option maxHeartbeats 4000000
set_option maxRecDepth 100000
theorem parse_long (L : List UInt8) (w : World) (hl : 1000 < L.length) (h2 : L.length ≤ 9223372036854775807) :
    Calls Tryz.prog 37 #[.string (bsOf L)] w (RetPz false [] 0 2 w) := by
  have hsz := bs_size L
  generalize bsOf L = Q at *
  go_enter Tryz.func37, Tryz.ntmps37
  go_wp2_with fail
  (try simp only [Exit.inBlock, Exit.then]); refine bodyPost_ret (ret4 rfl _ _ _) rfl ?_
  exact ⟨rfl, Below.refl _ _⟩
theorem parse_core (L T W R PA RE A D : List UInt8) (neg pt ok : Bool) (K : Int) (v0 : Bool) (v1 : List UInt8) (v2 v3 : Int) (w : World) (hl : L.length ≤ 1000)
    (eT : rdT L = T) (en : Lib.hasPrefix L [45] = neg) (eW : tkD T = W) (eR : dpD T = R) (ep : rPt R = pt) (eP : rPart R = PA) (eE : rRest R = RE) (ek : pwV RE = K) (eo : pwO RE = ok) (eA : W ++ PA = A) (eD : (A.dropWhile fun b => b == 48) = D)
    (c1 : ok = false → v0 = false ∧ v1 = [] ∧ v2 = 0 ∧ v3 = 5) (c2 : ok = true → A = [] → v0 = false ∧ v1 = [] ∧ v2 = 0 ∧ v3 = 5)
    (c3 : ok = true → A ≠ [] → D = [] → v0 = neg ∧ v1 = [] ∧ v2 = 0 ∧ v3 = 0) (c4 : ok = true → A ≠ [] → D ≠ [] → v0 = neg ∧ v1 = D ∧ v2 = K - (PA.length : Int) ∧ v3 = 0) :
    Calls Tryz.prog 37 #[.string (bsOf L)] w (RetPz v0 v1 v2 v3 w) := by
  have hsz := bs_size L
  have lT : T.length ≤ 1000 := by rw [← eT]; exact Nat.le_trans (trimPrefix_len L [45]) hl
  have lW : W.length ≤ 1000 := by rw [← eW]; exact Nat.le_trans (tk_len T) lT
  have lR : R.length ≤ 1000 := by have := dp_len T; rw [eR] at this; omega
  have lP : PA.length ≤ 1000 := by
    rw [← eP]; unfold rPart; split
    · refine Nat.le_trans (tk_len _) ?_; rw [List.length_drop]; omega
    · simp
  have lE : RE.length ≤ 1000 := by
    rw [← eE]; unfold rRest; split
    · have := dp_len (R.drop 1); rw [List.length_drop] at this; omega
    · exact lR
  have C1 := hid (show ∀ w, Calls Tryz.prog 102 #[.string (bsOf L), .string ⟨#[45]⟩] w fun e w' => e = .returned (.tuple #[.string (bsOf T), .bool neg]) ∧ w' = w from fun w => by
    have h := Tryz.strings_CutPrefix (bsOf L) ⟨#[45]⟩ w
    rw [bs_list] at h; rw [← eT, ← en]; exact h)
  have C2 := hid (show ∀ w, Calls Tryz.prog 102 #[.string (bsOf R), .string ⟨#[46]⟩] w fun e w' => e = .returned (.tuple #[.string (bsOf (Lib.trimPrefix R [46])), .bool pt]) ∧ w' = w from fun w => by
    have h := Tryz.strings_CutPrefix (bsOf R) ⟨#[46]⟩ w
    rw [bs_list] at h; rw [← ep]; exact h)
  have D1 := hid (fun w => digitsP_any T w (by omega))
  have D2 := hid (fun w => digitsP_any (Lib.trimPrefix R [46]) w (by have := trimPrefix_len R [46]; omega))
  have S1 := slice_to (P := Tryz.prog) Tryz.underlying9 T ((tkD T).length : Int) (by omega) (by have := tk_len T; omega)
  have S2 := slice_from (P := Tryz.prog) Tryz.underlying9 T ((tkD T).length : Int) (by omega) (by have := tk_len T; omega)
  rw [Int.toNat_natCast, take_tk, eW] at S1
  rw [Int.toNat_natCast, drop_tk, eW, eR] at S2
  obtain ⟨R1, hR1⟩ : ∃ R1, R1 = Lib.trimPrefix R [46] := ⟨_, rfl⟩
  have S3 := slice_to (P := Tryz.prog) Tryz.underlying9 R1 ((tkD R1).length : Int) (by omega) (by have := tk_len R1; omega)
  have S4 := slice_from (P := Tryz.prog) Tryz.underlying9 R1 ((tkD R1).length : Int) (by omega) (by have := tk_len R1; omega)
  rw [Int.toNat_natCast, take_tk] at S3
  rw [Int.toNat_natCast, drop_tk] at S4
  have hP : pt = true → tkD R1 = PA ∧ dpD R1 = RE := fun h => by
    have e1 : R1 = R.drop 1 := by rw [hR1, trimPrefix_one, if_pos (by rw [← h, ← ep]; rfl)]
    rw [e1, ← eP, ← eE]
    unfold rPart rRest
    rw [ep, if_pos h, if_pos h]
    exact ⟨rfl, rfl⟩
  have hP0 : pt = false → PA = [] ∧ RE = R := fun h => by
    rw [← eP, ← eE]
    unfold rPart rRest
    rw [ep, h]
    exact ⟨rfl, rfl⟩
  have PW := hid (fun w => powerP_any RE w (by omega))
  rw [ek, eo] at PW
  have ka := add_bs (P := Tryz.prog) W PA (by omega)
  rw [eA] at ka
  have TZ := hid (fun w => trimZ_any A w)
  rw [eD] at TZ
  have hKb := pwV_bd RE
  rw [ek] at hKb
  have hAe : (bsOf A).toList.isEmpty = A.isEmpty := by rw [bs_toList]
  have hDe : (bsOf D).toList.isEmpty = D.isEmpty := by rw [bs_toList]
  have hPz := bs_size PA
  have hw : IntKind.i64.wrap (K - (PA.length : Int)) = K - (PA.length : Int) := IntWalk.i64_in _ (by omega)
  rw [eW] at D1
  rw [← hR1] at D2 C2
  obtain ⟨n, hn⟩ : ∃ n, n = W.length := ⟨_, rfl⟩
  obtain ⟨n1, hn1⟩ : ∃ n1, n1 = (tkD R1).length := ⟨_, rfl⟩
  rw [← hn] at D1 S1 S2
  rw [← hn1] at D2 S3 S4
  clear hn hn1 eT en eW eR ep eP eE ek eo eA eD lT lW lR lE hR1
  go_enter Tryz.func37, Tryz.ntmps37
  go_upto_region 5 with (first
    | (go_at_call 102; (with_reducible refine (C1.out _).mono ?_); rintro en w1 ⟨rfl, rfl⟩)
    | (go_at_call 103; (with_reducible refine (D1.out _).mono ?_); rintro en w1 ⟨rfl, hb1⟩))
  go_region
  have hb2 := hb1.drew
  obtain ⟨w2, hw2⟩ : ∃ w2, w2 = w1.drew := ⟨_, rfl⟩
  rw [← hw2] at hb2 ⊢
  clear hw2 hb1 S1 S2 D1 C1
  cases pt
  · obtain ⟨e1, e2⟩ := hP0 rfl
    subst e2
    subst e1
    have ka2 : ∀ w, (Op.stringOp .add (bsOf W) ⟨#[]⟩).run Tryz.prog w = .ok (.string (bsOf A)) w := ka
    rw [show K - (([] : List UInt8).length : Int) = K by simp] at c4 hw
    clear hP hP0 S3 S4 D2 ka hPz
    go_upto_region 10 with (first | (go_at_call 102; (with_reducible refine (C2.out _).mono ?_); rintro en w3 ⟨rfl, rfl⟩) | (go_at_call 103; (with_reducible refine (D2.out _).mono ?_); rintro en w4 ⟨rfl, hb4⟩) | (go_at_call 104; (with_reducible refine (PW.out _).mono ?_); rintro en w5 ⟨rfl, hb5⟩) | (go_at_call 105; (with_reducible refine (TZ.out _).mono ?_); rintro en w6 ⟨rfl, rfl⟩))
    cases ok
    · obtain ⟨rfl, rfl, rfl, rfl⟩ := c1 rfl
      clear hAe hDe c1 c2 c3 c4
      go_wp2_with (first | (go_at_call 102; (with_reducible refine (C2.out _).mono ?_); rintro en w3 ⟨rfl, rfl⟩) | (go_at_call 103; (with_reducible refine (D2.out _).mono ?_); rintro en w4 ⟨rfl, hb4⟩) | (go_at_call 104; (with_reducible refine (PW.out _).mono ?_); rintro en w5 ⟨rfl, hb5⟩) | (go_at_call 105; (with_reducible refine (TZ.out _).mono ?_); rintro en w6 ⟨rfl, rfl⟩))
      (try simp only [Exit.inBlock, Exit.then]); refine bodyPost_ret (ret4 rfl _ _ _) rfl ?_
      exact ⟨rfl, by (repeat' (first | (with_reducible assumption) | (with_reducible exact Below.refl _ _) | (with_reducible refine below_al ?_ _) | (with_reducible refine below_drewN ?_ _) | (with_reducible refine Below.drew ?_) | (with_reducible refine Below.alloc ?_ ?_ _) | (with_reducible refine Below.setCell ?_ ?_ _) | (refine below_trans ?_ (by assumption)) | go_size))⟩
    · by_cases hA : A = []
      · obtain ⟨rfl, rfl, rfl, rfl⟩ := c2 rfl hA
        have hAe2 : (bsOf A).toList.isEmpty = true := by rw [hAe, hA]; rfl
        clear hAe c1 c2 c3 c4 hA
        go_wp2_with (first | (go_at_call 102; (with_reducible refine (C2.out _).mono ?_); rintro en w3 ⟨rfl, rfl⟩) | (go_at_call 103; (with_reducible refine (D2.out _).mono ?_); rintro en w4 ⟨rfl, hb4⟩) | (go_at_call 104; (with_reducible refine (PW.out _).mono ?_); rintro en w5 ⟨rfl, hb5⟩) | (go_at_call 105; (with_reducible refine (TZ.out _).mono ?_); rintro en w6 ⟨rfl, rfl⟩))
        (try simp only [Exit.inBlock, Exit.then]); refine bodyPost_ret (ret4 rfl _ _ _) rfl ?_
        exact ⟨rfl, by (repeat' (first | (with_reducible assumption) | (with_reducible exact Below.refl _ _) | (with_reducible refine below_al ?_ _) | (with_reducible refine below_drewN ?_ _) | (with_reducible refine Below.drew ?_) | (with_reducible refine Below.alloc ?_ ?_ _) | (with_reducible refine Below.setCell ?_ ?_ _) | (refine below_trans ?_ (by assumption)) | go_size))⟩
      · have hAe2 : (bsOf A).toList.isEmpty = false := by rw [hAe]; exact List.isEmpty_eq_false_iff.2 hA
        by_cases hD : D = []
        · have hDe2 : (bsOf D).toList.isEmpty = true := by rw [hDe, hD]; rfl
          obtain ⟨rfl, rfl, rfl, rfl⟩ := c3 rfl hA hD
          clear hAe hDe c1 c2 c3 c4 hA hD
          go_wp2_with (first | (go_at_call 102; (with_reducible refine (C2.out _).mono ?_); rintro en w3 ⟨rfl, rfl⟩) | (go_at_call 103; (with_reducible refine (D2.out _).mono ?_); rintro en w4 ⟨rfl, hb4⟩) | (go_at_call 104; (with_reducible refine (PW.out _).mono ?_); rintro en w5 ⟨rfl, hb5⟩) | (go_at_call 105; (with_reducible refine (TZ.out _).mono ?_); rintro en w6 ⟨rfl, rfl⟩))
          (try simp only [Exit.inBlock, Exit.then]); refine bodyPost_ret (ret4 rfl _ _ _) rfl ?_
          exact ⟨rfl, by (repeat' (first | (with_reducible assumption) | (with_reducible exact Below.refl _ _) | (with_reducible refine below_al ?_ _) | (with_reducible refine below_drewN ?_ _) | (with_reducible refine Below.drew ?_) | (with_reducible refine Below.alloc ?_ ?_ _) | (with_reducible refine Below.setCell ?_ ?_ _) | (refine below_trans ?_ (by assumption)) | go_size))⟩
        · have hDe2 : (bsOf D).toList.isEmpty = false := by rw [hDe]; exact List.isEmpty_eq_false_iff.2 hD
          obtain ⟨rfl, rfl, rfl, rfl⟩ := c4 rfl hA hD
          clear hAe hDe c1 c2 c3 c4 hA hD
          go_wp2_with (first | (go_at_call 102; (with_reducible refine (C2.out _).mono ?_); rintro en w3 ⟨rfl, rfl⟩) | (go_at_call 103; (with_reducible refine (D2.out _).mono ?_); rintro en w4 ⟨rfl, hb4⟩) | (go_at_call 104; (with_reducible refine (PW.out _).mono ?_); rintro en w5 ⟨rfl, hb5⟩) | (go_at_call 105; (with_reducible refine (TZ.out _).mono ?_); rintro en w6 ⟨rfl, rfl⟩))
          (try simp only [Exit.inBlock, Exit.then]); refine bodyPost_ret (ret4 rfl _ _ _) rfl ?_
          exact ⟨rfl, by (repeat' (first | (with_reducible assumption) | (with_reducible exact Below.refl _ _) | (with_reducible refine below_al ?_ _) | (with_reducible refine below_drewN ?_ _) | (with_reducible refine Below.drew ?_) | (with_reducible refine Below.alloc ?_ ?_ _) | (with_reducible refine Below.setCell ?_ ?_ _) | (refine below_trans ?_ (by assumption)) | go_size))⟩
  · obtain ⟨e1, e2⟩ := hP rfl
    rw [e1] at S3
    rw [e2] at S4
    clear hP hP0 e1 e2
    go_upto_region 9 with (first | (go_at_call 102; (with_reducible refine (C2.out _).mono ?_); rintro en w3 ⟨rfl, rfl⟩) | (go_at_call 103; (with_reducible refine (D2.out _).mono ?_); rintro en w4 ⟨rfl, hb4⟩) | (go_at_call 104; (with_reducible refine (PW.out _).mono ?_); rintro en w5 ⟨rfl, hb5⟩) | (go_at_call 105; (with_reducible refine (TZ.out _).mono ?_); rintro en w6 ⟨rfl, rfl⟩))
    go_region
    have hb5 := hb4.drew
    obtain ⟨w5, hw5⟩ : ∃ w5, w5 = w4.drew := ⟨_, rfl⟩
    rw [← hw5] at hb5 ⊢
    clear hw5
    cases ok
    · obtain ⟨rfl, rfl, rfl, rfl⟩ := c1 rfl
      clear hAe hDe c1 c2 c3 c4
      go_wp2_with (first | (go_at_call 102; (with_reducible refine (C2.out _).mono ?_); rintro en w3 ⟨rfl, rfl⟩) | (go_at_call 103; (with_reducible refine (D2.out _).mono ?_); rintro en w4 ⟨rfl, hb4⟩) | (go_at_call 104; (with_reducible refine (PW.out _).mono ?_); rintro en w5 ⟨rfl, hb5⟩) | (go_at_call 105; (with_reducible refine (TZ.out _).mono ?_); rintro en w6 ⟨rfl, rfl⟩))
      (try simp only [Exit.inBlock, Exit.then]); refine bodyPost_ret (ret4 rfl _ _ _) rfl ?_
      exact ⟨rfl, by (repeat' (first | (with_reducible assumption) | (with_reducible exact Below.refl _ _) | (with_reducible refine below_al ?_ _) | (with_reducible refine below_drewN ?_ _) | (with_reducible refine Below.drew ?_) | (with_reducible refine Below.alloc ?_ ?_ _) | (with_reducible refine Below.setCell ?_ ?_ _) | (refine below_trans ?_ (by assumption)) | go_size))⟩
    · by_cases hA : A = []
      · obtain ⟨rfl, rfl, rfl, rfl⟩ := c2 rfl hA
        have hAe2 : (bsOf A).toList.isEmpty = true := by rw [hAe, hA]; rfl
        clear hAe c1 c2 c3 c4 hA
        go_wp2_with (first | (go_at_call 102; (with_reducible refine (C2.out _).mono ?_); rintro en w3 ⟨rfl, rfl⟩) | (go_at_call 103; (with_reducible refine (D2.out _).mono ?_); rintro en w4 ⟨rfl, hb4⟩) | (go_at_call 104; (with_reducible refine (PW.out _).mono ?_); rintro en w5 ⟨rfl, hb5⟩) | (go_at_call 105; (with_reducible refine (TZ.out _).mono ?_); rintro en w6 ⟨rfl, rfl⟩))
        (try simp only [Exit.inBlock, Exit.then]); refine bodyPost_ret (ret4 rfl _ _ _) rfl ?_
        exact ⟨rfl, by (repeat' (first | (with_reducible assumption) | (with_reducible exact Below.refl _ _) | (with_reducible refine below_al ?_ _) | (with_reducible refine below_drewN ?_ _) | (with_reducible refine Below.drew ?_) | (with_reducible refine Below.alloc ?_ ?_ _) | (with_reducible refine Below.setCell ?_ ?_ _) | (refine below_trans ?_ (by assumption)) | go_size))⟩
      · have hAe2 : (bsOf A).toList.isEmpty = false := by rw [hAe]; exact List.isEmpty_eq_false_iff.2 hA
        by_cases hD : D = []
        · have hDe2 : (bsOf D).toList.isEmpty = true := by rw [hDe, hD]; rfl
          obtain ⟨rfl, rfl, rfl, rfl⟩ := c3 rfl hA hD
          clear hAe hDe c1 c2 c3 c4 hA hD
          go_wp2_with (first | (go_at_call 102; (with_reducible refine (C2.out _).mono ?_); rintro en w3 ⟨rfl, rfl⟩) | (go_at_call 103; (with_reducible refine (D2.out _).mono ?_); rintro en w4 ⟨rfl, hb4⟩) | (go_at_call 104; (with_reducible refine (PW.out _).mono ?_); rintro en w5 ⟨rfl, hb5⟩) | (go_at_call 105; (with_reducible refine (TZ.out _).mono ?_); rintro en w6 ⟨rfl, rfl⟩))
          (try simp only [Exit.inBlock, Exit.then]); refine bodyPost_ret (ret4 rfl _ _ _) rfl ?_
          exact ⟨rfl, by (repeat' (first | (with_reducible assumption) | (with_reducible exact Below.refl _ _) | (with_reducible refine below_al ?_ _) | (with_reducible refine below_drewN ?_ _) | (with_reducible refine Below.drew ?_) | (with_reducible refine Below.alloc ?_ ?_ _) | (with_reducible refine Below.setCell ?_ ?_ _) | (refine below_trans ?_ (by assumption)) | go_size))⟩
        · have hDe2 : (bsOf D).toList.isEmpty = false := by rw [hDe]; exact List.isEmpty_eq_false_iff.2 hD
          obtain ⟨rfl, rfl, rfl, rfl⟩ := c4 rfl hA hD
          clear hAe hDe c1 c2 c3 c4 hA hD
          go_wp2_with (first | (go_at_call 102; (with_reducible refine (C2.out _).mono ?_); rintro en w3 ⟨rfl, rfl⟩) | (go_at_call 103; (with_reducible refine (D2.out _).mono ?_); rintro en w4 ⟨rfl, hb4⟩) | (go_at_call 104; (with_reducible refine (PW.out _).mono ?_); rintro en w5 ⟨rfl, hb5⟩) | (go_at_call 105; (with_reducible refine (TZ.out _).mono ?_); rintro en w6 ⟨rfl, rfl⟩))
          (try simp only [Exit.inBlock, Exit.then]); refine bodyPost_ret (ret4 rfl _ _ _) rfl ?_
          exact ⟨rfl, by (repeat' (first | (with_reducible assumption) | (with_reducible exact Below.refl _ _) | (with_reducible refine below_al ?_ _) | (with_reducible refine below_drewN ?_ _) | (with_reducible refine Below.drew ?_) | (with_reducible refine Below.alloc ?_ ?_ _) | (with_reducible refine Below.setCell ?_ ?_ _) | (refine below_trans ?_ (by assumption)) | go_size))⟩
theorem parseP_any (L : List UInt8) (w : World) (hl : L.length ≤ 9223372036854775807) :
    Calls Tryz.prog 37 #[.string (bsOf L)] w (RetPz (rdN L) (rdD L) (rdK L) (rdE L) w) := by
  by_cases h : 1000 < L.length
  · have e1 : rdE L = 2 := by unfold rdE; rw [if_pos h]
    have h9 := parse_long L w h hl
    unfold rdN rdD rdK
    rw [e1, if_neg (by omega), if_neg (by omega), if_neg (by omega)]
    exact h9
  · have e1 : rdE L = if pwO (rPw L) = false ∨ rAll L = [] then 5 else 0 := by unfold rdE; rw [if_neg h]
    refine parse_core L (rdT L) (tkD (rdT L)) (dpD (rdT L)) (rPart (dpD (rdT L))) (rPw L) (rAll L) (rD L) _ _ _ _ _ _ _ _ w (by omega) rfl rfl rfl rfl rfl rfl rfl rfl rfl rfl rfl ?_ ?_ ?_ ?_
    · intro h1
      have e2 : rdE L = 5 := by rw [e1, if_pos (.inl h1)]
      unfold rdN rdD rdK
      rw [e2, if_neg (by omega), if_neg (by omega), if_neg (by omega)]
      exact ⟨rfl, rfl, rfl, rfl⟩
    · intro _ h1
      have e2 : rdE L = 5 := by rw [e1, if_pos (.inr h1)]
      unfold rdN rdD rdK
      rw [e2, if_neg (by omega), if_neg (by omega), if_neg (by omega)]
      exact ⟨rfl, rfl, rfl, rfl⟩
    · intro h1 h2 h3
      have e2 : rdE L = 0 := by rw [e1, if_neg (fun h9 => h9.elim (fun h => by rw [h1] at h; cases h) h2)]
      unfold rdN rdD rdK
      rw [e2, if_pos rfl, if_pos rfl, if_neg (fun h => h.2 h3)]
      exact ⟨rfl, h3, rfl, rfl⟩
    · intro h1 h2 h3
      have e2 : rdE L = 0 := by rw [e1, if_neg (fun h9 => h9.elim (fun h => by rw [h1] at h; cases h) h2)]
      unfold rdN rdD rdK
      rw [e2, if_pos rfl, if_pos rfl, if_pos ⟨rfl, h3⟩]
      exact ⟨rfl, rfl, rfl, rfl⟩
end Go.Proofs.YthaelmnblgollaaGreatDoor
set_option linter.unusedVariables false
set_option linter.unusedSimpArgs false
namespace Go.Ulp
open Go.RowKit
theorem drop_cons {L : List UInt8} {j : Nat} {b : UInt8} {r : List UInt8} (h : L.drop j = b :: r) : j < L.length ∧ L.drop (j + 1) = r ∧ L.getD j 0 = b := by
  have h1 : j < L.length := by
    rcases Nat.lt_or_ge j L.length with h9 | h9
    · exact h9
    · rw [List.drop_eq_nil_of_le h9] at h; cases h
  have h2 : L.drop (j + 1) = (L.drop j).drop 1 := by rw [List.drop_drop]
  refine ⟨h1, by rw [h2, h]; rfl, ?_⟩
  rw [List.drop_eq_getElem_cons h1] at h
  injection h with h3 _
  rw [List.getD_eq_getElem?_getD, List.getElem?_eq_getElem h1]; exact h3
theorem run_index {P : Program} {t : TypeId} (ht : P.underlying t = some .string) (L : List UInt8) (j : Nat) (b : UInt8) (r : List UInt8) (h : L.drop j = b :: r) (w : World) : (Instr.index t (.string (bsOf L)) (.int .i64 (j : Int))).run P w = .ok (.int .u8 (b.toNat : Int)) w := by
  obtain ⟨h1, -, h3⟩ := drop_cons h
  rw [run_index_string _ _ _ _ _ ht, dif_pos ⟨by omega, by rw [bs_size]; omega⟩]
  have key : ∀ (n : Nat) (hn : n < (bsOf L).size), n = j → (bsOf L)[n] = b := by
    rintro n hn rfl
    show L.toArray[n]'(by rw [bs_size] at hn; simpa using hn) = b
    rw [List.getElem_toArray]
    rw [List.getD_eq_getElem?_getD, List.getElem?_eq_getElem h1] at h3
    exact h3
  rw [key _ _ (by omega)]
end Go.Ulp
namespace Go.Proofs.YthaelmnblgollaaGreatDoor
open Go.RowKit Go.Ulp
set_option linter.unusedVariables false
set_option linter.unusedSimpArgs false
set_option maxHeartbeats 2000000
set_option maxRecDepth 100000
theorem run_any (L : List UInt8) (at0 : Nat) (w : World) (hl : L.length ≤ 1000000) (ha : at0 ≤ L.length) :
    Calls Tryz.prog 109 #[.string (bsOf L), .int .i64 (at0 : Int)] w fun e w' => e = .returned (.int .i64 ((at0 + (tkD (L.drop at0)).length : Nat) : Int)) ∧ w = w' := by
  have hsz := bs_size L
  obtain ⟨E, hE⟩ : ∃ E, E = at0 + (tkD (L.drop at0)).length := ⟨_, rfl⟩
  rw [← hE]
  have BT := hid (fun n w => between_any n 48 57 w)
  go_enter Tryz.func109, Tryz.ntmps109
  go_wp2_with fail
  go_loopw [1] (fun s1 wr => ∃ j : Nat, s1 = .int .i64 (j : Int) ∧ j ≤ L.length ∧ j + (tkD (L.drop j)).length = E ∧ wr = w) (fun s1 _ => L.length - (intOf s1).toNat)
  case atStart => exact ⟨at0, rfl, ha, hE.symm, rfl⟩
  case round =>
    obtain ⟨j, rfl, hj, hjE, rfl⟩ := hrel
    cases hd : L.drop j with
    | nil =>
      have h1 : ¬ j < L.length := fun h9 => by
        have := congrArg List.length hd
        rw [List.length_drop, List.length_nil] at this; omega
      rw [hd] at hjE
      have e : j = E := hjE
      subst e
      go_wp2_with fail
      go_ret
      exact ⟨rfl, by first | rfl | trivial⟩
    | cons b r =>
      obtain ⟨h1, h2, -⟩ := drop_cons hd
      have hix := run_index (P := Tryz.prog) Tryz.underlying9 L j b r hd
      rw [hd] at hjE
      have hw : IntKind.i64.wrap ((j : Int) + 1) = (j : Int) + 1 := IntWalk.i64_in _ (by omega)
      have hc : IntKind.i64.wrap (b.toNat : Int) = (b.toNat : Int) := IntWalk.i64_in _ (by have := b.toNat_lt; omega)
      obtain ⟨t, ht⟩ : ∃ t, t = isDg b := ⟨_, rfl⟩
      have B1 := hid (show ∀ w, Calls Tryz.prog 40 #[.int .i64 (b.toNat : Int), .int .i64 48, .int .i64 57] w fun e w' => e = .returned (.bool t) ∧ w = w' from fun w => by
        have h := BT.out (b.toNat : Int) w
        rw [show decide ((48 : Int) ≤ (b.toNat : Int) ∧ (b.toNat : Int) ≤ 57) = t by rw [ht]; unfold isDg; rw [decide_eq_decide]; omega] at h
        exact h)
      obtain ⟨Q, hQ⟩ : ∃ Q, Q = bsOf L := ⟨_, rfl⟩
      rw [← hQ] at hix hsz ⊢
      obtain ⟨x, hx⟩ : ∃ x : Int, x = (b.toNat : Int) := ⟨_, rfl⟩
      rw [← hx] at hix hc B1
      have HE := hid hjE
      have HT := hid ht
      have H2 := hid h2
      clear hd hQ hx BT ht hjE h2
      cases t
      · go_wp2_with (go_at_call 40; (with_reducible refine (B1.out _).mono ?_); rintro en w1 ⟨rfl, rfl⟩)
        go_ret
        have e : j = E := by
          have h := HE.out
          unfold tkD at h
          rw [List.takeWhile_cons_of_neg (by rw [← HT.out]; decide)] at h
          exact h
        exact ⟨by rw [e]; rfl, by first | rfl | trivial⟩
      · go_wp2_with (go_at_call 40; (with_reducible refine (B1.out _).mono ?_); rintro en w1 ⟨rfl, rfl⟩)
        go_roundw
        case rel =>
          refine ⟨j + 1, by go_num, by omega, ?_, by first | rfl | trivial⟩
          rw [H2.out]
          have h := HE.out
          unfold tkD at h ⊢
          rw [List.takeWhile_cons_of_pos (by rw [← HT.out])] at h
          rw [List.length_cons] at h; omega
        case measure => simp [intOf]; omega
end Go.Proofs.YthaelmnblgollaaGreatDoor
