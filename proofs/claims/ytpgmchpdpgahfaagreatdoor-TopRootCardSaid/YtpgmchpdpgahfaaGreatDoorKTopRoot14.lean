/- TopRoot: what the proof leans on, part 14 (Re9 Tx4). -/
import Derived.Test.YtpgmchpdpgahfaaGreatDoorKTopRoot4
import Derived.Test.YtpgmchpdpgahfaaGreatDoorKTopRoot7
import Derived.Test.YtpgmchpdpgahfaaGreatDoorKTopRoot10
import Derived.Test.YtpgmchpdpgahfaaGreatDoorKTopRoot11
import Derived.Test.YtpgmchpdpgahfaaGreatDoorKTopRoot12
import Derived.Test.YtpgmchpdpgahfaaGreatDoorKTopRoot13
set_option linter.unusedVariables false
set_option linter.unusedSimpArgs false
namespace Go.Ulp
open Go.RowKit
/-- the text behind a minus -/
def rdT (L : List UInt8) : List UInt8 := Lib.trimPrefix L [45]
/-- the digits behind a point, and what is behind them -/
def rPt (R : List UInt8) : Bool := Lib.hasPrefix R [46]
def rPart (R : List UInt8) : List UInt8 := if rPt R = true then tkD (R.drop 1) else []
def rRest (R : List UInt8) : List UInt8 := if rPt R = true then dpD (R.drop 1) else R
def rAll (L : List UInt8) : List UInt8 := tkD (rdT L) ++ rPart (dpD (rdT L))
def rPw (L : List UInt8) : List UInt8 := rRest (dpD (rdT L))
def rD (L : List UInt8) : List UInt8 := (rAll L).dropWhile fun b => b == 48
/-- sign, digits, exponent and error -/
def rdE (L : List UInt8) : Int := if 1000 < L.length then 2 else if pwO (rPw L) = false ∨ rAll L = [] then 5 else 0
def rdN (L : List UInt8) : Bool := if rdE L = 0 then Lib.hasPrefix L [45] else false
def rdD (L : List UInt8) : List UInt8 := if rdE L = 0 then rD L else []
def rdK (L : List UInt8) : Int := if rdE L = 0 ∧ rD L ≠ [] then pwV (rPw L) - ((rPart (dpD (rdT L))).length : Int) else 0
theorem trimPrefix_len (L p : List UInt8) : (Lib.trimPrefix L p).length ≤ L.length := by unfold Lib.trimPrefix; split <;> simp
theorem trimPrefix_one (R : List UInt8) (c : UInt8) : Lib.trimPrefix R [c] = if Lib.hasPrefix R [c] = true then R.drop 1 else R := rfl
def RetPz (n : Bool) (D : List UInt8) (k x : Int) (w : World) (e : Ending) (w' : World) : Prop := e = .returned (.tuple #[.bool n, .string (bsOf D), .int .i64 k, .int .i64 x]) ∧ Below w.heap.size w w'
theorem ret4 {fn : Func} {t u v x : Tmp} (h : fn.results = #[.tmp t, .tmp u, .tmp v, .tmp x]) (tmps : Array Value) (P : Program) (w : World) :
    (results fn tmps).run P w = .ok (.tuple #[tmps.getD t undef, tmps.getD u undef, tmps.getD v undef, tmps.getD x undef]) w := by
  simp [results, h]
end Go.Ulp
namespace Go.Proofs.YtpgmchpdpgahfaaGreatDoor
open Go.RowKit Go.Ulp
set_option linter.unusedVariables false
set_option linter.unusedSimpArgs false
set_option maxHeartbeats 4000000
set_option maxRecDepth 100000
theorem parse_long (L : List UInt8) (w : World) (hl : 1000 < L.length) (h2 : L.length ≤ 9223372036854775807) :
    Calls Tryz.prog 24 #[.string (bsOf L)] w (RetPz false [] 0 2 w) := by
  have hsz := bs_size L
  generalize bsOf L = Q at *
  go_enter Tryz.func24, Tryz.ntmps24
  go_wp2_with fail
  (try simp only [Exit.inBlock, Exit.then]); refine bodyPost_ret (ret4 rfl _ _ _) rfl ?_
  exact ⟨rfl, Below.refl _ _⟩
theorem parse_core (L T W R PA RE A D : List UInt8) (neg pt ok : Bool) (K : Int) (v0 : Bool) (v1 : List UInt8) (v2 v3 : Int) (w : World) (hl : L.length ≤ 1000)
    (eT : rdT L = T) (en : Lib.hasPrefix L [45] = neg) (eW : tkD T = W) (eR : dpD T = R) (ep : rPt R = pt) (eP : rPart R = PA) (eE : rRest R = RE) (ek : pwV RE = K) (eo : pwO RE = ok) (eA : W ++ PA = A) (eD : (A.dropWhile fun b => b == 48) = D)
    (c1 : ok = false → v0 = false ∧ v1 = [] ∧ v2 = 0 ∧ v3 = 5) (c2 : ok = true → A = [] → v0 = false ∧ v1 = [] ∧ v2 = 0 ∧ v3 = 5)
    (c3 : ok = true → A ≠ [] → D = [] → v0 = neg ∧ v1 = [] ∧ v2 = 0 ∧ v3 = 0) (c4 : ok = true → A ≠ [] → D ≠ [] → v0 = neg ∧ v1 = D ∧ v2 = K - (PA.length : Int) ∧ v3 = 0) :
    Calls Tryz.prog 24 #[.string (bsOf L)] w (RetPz v0 v1 v2 v3 w) := by
  have hsz := bs_size L
  have lT : T.length ≤ 1000 := by rw [← eT]; exact Nat.le_trans (trimPrefix_len L [45]) hl
  have lW : W.length ≤ 1000 := by rw [← eW]; exact Nat.le_trans (tk_len T) lT
  have lR : R.length ≤ 1000 := by have := dp_len T; rw [eR] at this; omega
  have lP : PA.length ≤ 1000 := by
    rw [← eP]; unfold rPart; split
    · refine Nat.le_trans (tk_len _) ?_; rw [List.length_drop]; omega
    · simp
  have lE : RE.length ≤ 1000 := by
    rw [← eE]; unfold rRest; split
    · have := dp_len (R.drop 1); rw [List.length_drop] at this; omega
    · exact lR
  have C1 := hid (show ∀ w, Calls Tryz.prog 43 #[.string (bsOf L), .string ⟨#[45]⟩] w fun e w' => e = .returned (.tuple #[.string (bsOf T), .bool neg]) ∧ w' = w from fun w => by
    have h := Tryz.strings_CutPrefix (bsOf L) ⟨#[45]⟩ w
    rw [bs_list] at h; rw [← eT, ← en]; exact h)
  have C2 := hid (show ∀ w, Calls Tryz.prog 43 #[.string (bsOf R), .string ⟨#[46]⟩] w fun e w' => e = .returned (.tuple #[.string (bsOf (Lib.trimPrefix R [46])), .bool pt]) ∧ w' = w from fun w => by
    have h := Tryz.strings_CutPrefix (bsOf R) ⟨#[46]⟩ w
    rw [bs_list] at h; rw [← ep]; exact h)
  have D1 := hid (fun w => digitsP_any T w (by omega))
  have D2 := hid (fun w => digitsP_any (Lib.trimPrefix R [46]) w (by have := trimPrefix_len R [46]; omega))
  have S1 := slice_to (P := Tryz.prog) Tryz.underlying9 T ((tkD T).length : Int) (by omega) (by have := tk_len T; omega)
  have S2 := slice_from (P := Tryz.prog) Tryz.underlying9 T ((tkD T).length : Int) (by omega) (by have := tk_len T; omega)
  rw [Int.toNat_natCast, take_tk, eW] at S1
  rw [Int.toNat_natCast, drop_tk, eW, eR] at S2
  obtain ⟨R1, hR1⟩ : ∃ R1, R1 = Lib.trimPrefix R [46] := ⟨_, rfl⟩
  have S3 := slice_to (P := Tryz.prog) Tryz.underlying9 R1 ((tkD R1).length : Int) (by omega) (by have := tk_len R1; omega)
  have S4 := slice_from (P := Tryz.prog) Tryz.underlying9 R1 ((tkD R1).length : Int) (by omega) (by have := tk_len R1; omega)
  rw [Int.toNat_natCast, take_tk] at S3
  rw [Int.toNat_natCast, drop_tk] at S4
  have hP : pt = true → tkD R1 = PA ∧ dpD R1 = RE := fun h => by
    have e1 : R1 = R.drop 1 := by rw [hR1, trimPrefix_one, if_pos (by rw [← h, ← ep]; rfl)]
    rw [e1, ← eP, ← eE]
    unfold rPart rRest
    rw [ep, if_pos h, if_pos h]
    exact ⟨rfl, rfl⟩
  have hP0 : pt = false → PA = [] ∧ RE = R := fun h => by
    rw [← eP, ← eE]
    unfold rPart rRest
    rw [ep, h]
    exact ⟨rfl, rfl⟩
  have PW := hid (fun w => powerP_any RE w (by omega))
  rw [ek, eo] at PW
  have ka := add_bs (P := Tryz.prog) W PA (by omega)
  rw [eA] at ka
  have TZ := hid (fun w => trimZ_any A w)
  rw [eD] at TZ
  have hKb := pwV_bd RE
  rw [ek] at hKb
  have hAe : (bsOf A).toList.isEmpty = A.isEmpty := by rw [bs_toList]
  have hDe : (bsOf D).toList.isEmpty = D.isEmpty := by rw [bs_toList]
  have hPz := bs_size PA
  have hw : IntKind.i64.wrap (K - (PA.length : Int)) = K - (PA.length : Int) := IntWalk.i64_in _ (by omega)
  rw [eW] at D1
  rw [← hR1] at D2 C2
  obtain ⟨n, hn⟩ : ∃ n, n = W.length := ⟨_, rfl⟩
  obtain ⟨n1, hn1⟩ : ∃ n1, n1 = (tkD R1).length := ⟨_, rfl⟩
  rw [← hn] at D1 S1 S2
  rw [← hn1] at D2 S3 S4
  clear hn hn1 eT en eW eR ep eP eE ek eo eA eD lT lW lR lE hR1
  go_enter Tryz.func24, Tryz.ntmps24
  go_upto_region 5 with (first
    | (go_at_call 43; (with_reducible refine (C1.out _).mono ?_); rintro en w1 ⟨rfl, rfl⟩)
    | (go_at_call 44; (with_reducible refine (D1.out _).mono ?_); rintro en w1 ⟨rfl, hb1⟩))
  go_region
  have hb2 := hb1.drew
  obtain ⟨w2, hw2⟩ : ∃ w2, w2 = w1.drew := ⟨_, rfl⟩
  rw [← hw2] at hb2 ⊢
  clear hw2 hb1 S1 S2 D1 C1
  cases pt
  · obtain ⟨e1, e2⟩ := hP0 rfl
    subst e2
    subst e1
    have ka2 : ∀ w, (Op.stringOp .add (bsOf W) ⟨#[]⟩).run Tryz.prog w = .ok (.string (bsOf A)) w := ka
    rw [show K - (([] : List UInt8).length : Int) = K by simp] at c4 hw
    clear hP hP0 S3 S4 D2 ka hPz
    go_upto_region 10 with (first | (go_at_call 43; (with_reducible refine (C2.out _).mono ?_); rintro en w3 ⟨rfl, rfl⟩) | (go_at_call 44; (with_reducible refine (D2.out _).mono ?_); rintro en w4 ⟨rfl, hb4⟩) | (go_at_call 45; (with_reducible refine (PW.out _).mono ?_); rintro en w5 ⟨rfl, hb5⟩) | (go_at_call 46; (with_reducible refine (TZ.out _).mono ?_); rintro en w6 ⟨rfl, rfl⟩))
    cases ok
    · obtain ⟨rfl, rfl, rfl, rfl⟩ := c1 rfl
      clear hAe hDe c1 c2 c3 c4
      go_wp2_with (first | (go_at_call 43; (with_reducible refine (C2.out _).mono ?_); rintro en w3 ⟨rfl, rfl⟩) | (go_at_call 44; (with_reducible refine (D2.out _).mono ?_); rintro en w4 ⟨rfl, hb4⟩) | (go_at_call 45; (with_reducible refine (PW.out _).mono ?_); rintro en w5 ⟨rfl, hb5⟩) | (go_at_call 46; (with_reducible refine (TZ.out _).mono ?_); rintro en w6 ⟨rfl, rfl⟩))
      (try simp only [Exit.inBlock, Exit.then]); refine bodyPost_ret (ret4 rfl _ _ _) rfl ?_
      exact ⟨rfl, by (repeat' (first | (with_reducible assumption) | (with_reducible exact Below.refl _ _) | (with_reducible refine below_al ?_ _) | (with_reducible refine below_drewN ?_ _) | (with_reducible refine Below.drew ?_) | (with_reducible refine Below.alloc ?_ ?_ _) | (with_reducible refine Below.setCell ?_ ?_ _) | (refine below_trans ?_ (by assumption)) | go_size))⟩
    · by_cases hA : A = []
      · obtain ⟨rfl, rfl, rfl, rfl⟩ := c2 rfl hA
        have hAe2 : (bsOf A).toList.isEmpty = true := by rw [hAe, hA]; rfl
        clear hAe c1 c2 c3 c4 hA
        go_wp2_with (first | (go_at_call 43; (with_reducible refine (C2.out _).mono ?_); rintro en w3 ⟨rfl, rfl⟩) | (go_at_call 44; (with_reducible refine (D2.out _).mono ?_); rintro en w4 ⟨rfl, hb4⟩) | (go_at_call 45; (with_reducible refine (PW.out _).mono ?_); rintro en w5 ⟨rfl, hb5⟩) | (go_at_call 46; (with_reducible refine (TZ.out _).mono ?_); rintro en w6 ⟨rfl, rfl⟩))
        (try simp only [Exit.inBlock, Exit.then]); refine bodyPost_ret (ret4 rfl _ _ _) rfl ?_
        exact ⟨rfl, by (repeat' (first | (with_reducible assumption) | (with_reducible exact Below.refl _ _) | (with_reducible refine below_al ?_ _) | (with_reducible refine below_drewN ?_ _) | (with_reducible refine Below.drew ?_) | (with_reducible refine Below.alloc ?_ ?_ _) | (with_reducible refine Below.setCell ?_ ?_ _) | (refine below_trans ?_ (by assumption)) | go_size))⟩
      · have hAe2 : (bsOf A).toList.isEmpty = false := by rw [hAe]; exact List.isEmpty_eq_false_iff.2 hA
        by_cases hD : D = []
        · have hDe2 : (bsOf D).toList.isEmpty = true := by rw [hDe, hD]; rfl
          obtain ⟨rfl, rfl, rfl, rfl⟩ := c3 rfl hA hD
          clear hAe hDe c1 c2 c3 c4 hA hD
          go_wp2_with (first | (go_at_call 43; (with_reducible refine (C2.out _).mono ?_); rintro en w3 ⟨rfl, rfl⟩) | (go_at_call 44; (with_reducible refine (D2.out _).mono ?_); rintro en w4 ⟨rfl, hb4⟩) | (go_at_call 45; (with_reducible refine (PW.out _).mono ?_); rintro en w5 ⟨rfl, hb5⟩) | (go_at_call 46; (with_reducible refine (TZ.out _).mono ?_); rintro en w6 ⟨rfl, rfl⟩))
          (try simp only [Exit.inBlock, Exit.then]); refine bodyPost_ret (ret4 rfl _ _ _) rfl ?_
          exact ⟨rfl, by (repeat' (first | (with_reducible assumption) | (with_reducible exact Below.refl _ _) | (with_reducible refine below_al ?_ _) | (with_reducible refine below_drewN ?_ _) | (with_reducible refine Below.drew ?_) | (with_reducible refine Below.alloc ?_ ?_ _) | (with_reducible refine Below.setCell ?_ ?_ _) | (refine below_trans ?_ (by assumption)) | go_size))⟩
        · have hDe2 : (bsOf D).toList.isEmpty = false := by rw [hDe]; exact List.isEmpty_eq_false_iff.2 hD
          obtain ⟨rfl, rfl, rfl, rfl⟩ := c4 rfl hA hD
          clear hAe hDe c1 c2 c3 c4 hA hD
          go_wp2_with (first | (go_at_call 43; (with_reducible refine (C2.out _).mono ?_); rintro en w3 ⟨rfl, rfl⟩) | (go_at_call 44; (with_reducible refine (D2.out _).mono ?_); rintro en w4 ⟨rfl, hb4⟩) | (go_at_call 45; (with_reducible refine (PW.out _).mono ?_); rintro en w5 ⟨rfl, hb5⟩) | (go_at_call 46; (with_reducible refine (TZ.out _).mono ?_); rintro en w6 ⟨rfl, rfl⟩))
          (try simp only [Exit.inBlock, Exit.then]); refine bodyPost_ret (ret4 rfl _ _ _) rfl ?_
          exact ⟨rfl, by (repeat' (first | (with_reducible assumption) | (with_reducible exact Below.refl _ _) | (with_reducible refine below_al ?_ _) | (with_reducible refine below_drewN ?_ _) | (with_reducible refine Below.drew ?_) | (with_reducible refine Below.alloc ?_ ?_ _) | (with_reducible refine Below.setCell ?_ ?_ _) | (refine below_trans ?_ (by assumption)) | go_size))⟩
  · obtain ⟨e1, e2⟩ := hP rfl
    rw [e1] at S3
    rw [e2] at S4
    clear hP hP0 e1 e2
    go_upto_region 9 with (first | (go_at_call 43; (with_reducible refine (C2.out _).mono ?_); rintro en w3 ⟨rfl, rfl⟩) | (go_at_call 44; (with_reducible refine (D2.out _).mono ?_); rintro en w4 ⟨rfl, hb4⟩) | (go_at_call 45; (with_reducible refine (PW.out _).mono ?_); rintro en w5 ⟨rfl, hb5⟩) | (go_at_call 46; (with_reducible refine (TZ.out _).mono ?_); rintro en w6 ⟨rfl, rfl⟩))
    go_region
    have hb5 := hb4.drew
    obtain ⟨w5, hw5⟩ : ∃ w5, w5 = w4.drew := ⟨_, rfl⟩
    rw [← hw5] at hb5 ⊢
    clear hw5
    cases ok
    · obtain ⟨rfl, rfl, rfl, rfl⟩ := c1 rfl
      clear hAe hDe c1 c2 c3 c4
      go_wp2_with (first | (go_at_call 43; (with_reducible refine (C2.out _).mono ?_); rintro en w3 ⟨rfl, rfl⟩) | (go_at_call 44; (with_reducible refine (D2.out _).mono ?_); rintro en w4 ⟨rfl, hb4⟩) | (go_at_call 45; (with_reducible refine (PW.out _).mono ?_); rintro en w5 ⟨rfl, hb5⟩) | (go_at_call 46; (with_reducible refine (TZ.out _).mono ?_); rintro en w6 ⟨rfl, rfl⟩))
      (try simp only [Exit.inBlock, Exit.then]); refine bodyPost_ret (ret4 rfl _ _ _) rfl ?_
      exact ⟨rfl, by (repeat' (first | (with_reducible assumption) | (with_reducible exact Below.refl _ _) | (with_reducible refine below_al ?_ _) | (with_reducible refine below_drewN ?_ _) | (with_reducible refine Below.drew ?_) | (with_reducible refine Below.alloc ?_ ?_ _) | (with_reducible refine Below.setCell ?_ ?_ _) | (refine below_trans ?_ (by assumption)) | go_size))⟩
    · by_cases hA : A = []
      · obtain ⟨rfl, rfl, rfl, rfl⟩ := c2 rfl hA
        have hAe2 : (bsOf A).toList.isEmpty = true := by rw [hAe, hA]; rfl
        clear hAe c1 c2 c3 c4 hA
        go_wp2_with (first | (go_at_call 43; (with_reducible refine (C2.out _).mono ?_); rintro en w3 ⟨rfl, rfl⟩) | (go_at_call 44; (with_reducible refine (D2.out _).mono ?_); rintro en w4 ⟨rfl, hb4⟩) | (go_at_call 45; (with_reducible refine (PW.out _).mono ?_); rintro en w5 ⟨rfl, hb5⟩) | (go_at_call 46; (with_reducible refine (TZ.out _).mono ?_); rintro en w6 ⟨rfl, rfl⟩))
        (try simp only [Exit.inBlock, Exit.then]); refine bodyPost_ret (ret4 rfl _ _ _) rfl ?_
        exact ⟨rfl, by (repeat' (first | (with_reducible assumption) | (with_reducible exact Below.refl _ _) | (with_reducible refine below_al ?_ _) | (with_reducible refine below_drewN ?_ _) | (with_reducible refine Below.drew ?_) | (with_reducible refine Below.alloc ?_ ?_ _) | (with_reducible refine Below.setCell ?_ ?_ _) | (refine below_trans ?_ (by assumption)) | go_size))⟩
      · have hAe2 : (bsOf A).toList.isEmpty = false := by rw [hAe]; exact List.isEmpty_eq_false_iff.2 hA
        by_cases hD : D = []
        · have hDe2 : (bsOf D).toList.isEmpty = true := by rw [hDe, hD]; rfl
          obtain ⟨rfl, rfl, rfl, rfl⟩ := c3 rfl hA hD
          clear hAe hDe c1 c2 c3 c4 hA hD
          go_wp2_with (first | (go_at_call 43; (with_reducible refine (C2.out _).mono ?_); rintro en w3 ⟨rfl, rfl⟩) | (go_at_call 44; (with_reducible refine (D2.out _).mono ?_); rintro en w4 ⟨rfl, hb4⟩) | (go_at_call 45; (with_reducible refine (PW.out _).mono ?_); rintro en w5 ⟨rfl, hb5⟩) | (go_at_call 46; (with_reducible refine (TZ.out _).mono ?_); rintro en w6 ⟨rfl, rfl⟩))
          (try simp only [Exit.inBlock, Exit.then]); refine bodyPost_ret (ret4 rfl _ _ _) rfl ?_
          exact ⟨rfl, by (repeat' (first | (with_reducible assumption) | (with_reducible exact Below.refl _ _) | (with_reducible refine below_al ?_ _) | (with_reducible refine below_drewN ?_ _) | (with_reducible refine Below.drew ?_) | (with_reducible refine Below.alloc ?_ ?_ _) | (with_reducible refine Below.setCell ?_ ?_ _) | (refine below_trans ?_ (by assumption)) | go_size))⟩
        · have hDe2 : (bsOf D).toList.isEmpty = false := by rw [hDe]; exact List.isEmpty_eq_false_iff.2 hD
          obtain ⟨rfl, rfl, rfl, rfl⟩ := c4 rfl hA hD
          clear hAe hDe c1 c2 c3 c4 hA hD
          go_wp2_with (first | (go_at_call 43; (with_reducible refine (C2.out _).mono ?_); rintro en w3 ⟨rfl, rfl⟩) | (go_at_call 44; (with_reducible refine (D2.out _).mono ?_); rintro en w4 ⟨rfl, hb4⟩) | (go_at_call 45; (with_reducible refine (PW.out _).mono ?_); rintro en w5 ⟨rfl, hb5⟩) | (go_at_call 46; (with_reducible refine (TZ.out _).mono ?_); rintro en w6 ⟨rfl, rfl⟩))
          (try simp only [Exit.inBlock, Exit.then]); refine bodyPost_ret (ret4 rfl _ _ _) rfl ?_
          exact ⟨rfl, by (repeat' (first | (with_reducible assumption) | (with_reducible exact Below.refl _ _) | (with_reducible refine below_al ?_ _) | (with_reducible refine below_drewN ?_ _) | (with_reducible refine Below.drew ?_) | (with_reducible refine Below.alloc ?_ ?_ _) | (with_reducible refine Below.setCell ?_ ?_ _) | (refine below_trans ?_ (by assumption)) | go_size))⟩
theorem parseP_any (L : List UInt8) (w : World) (hl : L.length ≤ 9223372036854775807) :
    Calls Tryz.prog 24 #[.string (bsOf L)] w (RetPz (rdN L) (rdD L) (rdK L) (rdE L) w) := by
  by_cases h : 1000 < L.length
  · have e1 : rdE L = 2 := by unfold rdE; rw [if_pos h]
    have h9 := parse_long L w h hl
    unfold rdN rdD rdK
    rw [e1, if_neg (by omega), if_neg (by omega), if_neg (by omega)]
    exact h9
  · have e1 : rdE L = if pwO (rPw L) = false ∨ rAll L = [] then 5 else 0 := by unfold rdE; rw [if_neg h]
    refine parse_core L (rdT L) (tkD (rdT L)) (dpD (rdT L)) (rPart (dpD (rdT L))) (rPw L) (rAll L) (rD L) _ _ _ _ _ _ _ _ w (by omega) rfl rfl rfl rfl rfl rfl rfl rfl rfl rfl rfl ?_ ?_ ?_ ?_
    · intro h1
      have e2 : rdE L = 5 := by rw [e1, if_pos (.inl h1)]
      unfold rdN rdD rdK
      rw [e2, if_neg (by omega), if_neg (by omega), if_neg (by omega)]
      exact ⟨rfl, rfl, rfl, rfl⟩
    · intro _ h1
      have e2 : rdE L = 5 := by rw [e1, if_pos (.inr h1)]
      unfold rdN rdD rdK
      rw [e2, if_neg (by omega), if_neg (by omega), if_neg (by omega)]
      exact ⟨rfl, rfl, rfl, rfl⟩
    · intro h1 h2 h3
      have e2 : rdE L = 0 := by rw [e1, if_neg (fun h9 => h9.elim (fun h => by rw [h1] at h; cases h) h2)]
      unfold rdN rdD rdK
      rw [e2, if_pos rfl, if_pos rfl, if_neg (fun h => h.2 h3)]
      exact ⟨rfl, h3, rfl, rfl⟩
    · intro h1 h2 h3
      have e2 : rdE L = 0 := by rw [e1, if_neg (fun h9 => h9.elim (fun h => by rw [h1] at h; cases h) h2)]
      unfold rdN rdD rdK
      rw [e2, if_pos rfl, if_pos rfl, if_pos ⟨rfl, h3⟩]
      exact ⟨rfl, rfl, rfl, rfl⟩
end Go.Proofs.YtpgmchpdpgahfaaGreatDoor
set_option linter.unusedVariables false
set_option linter.unusedSimpArgs false
namespace Go.Ulp
open Go.RowKit
end Go.Ulp
namespace Go.Proofs.YtpgmchpdpgahfaaGreatDoor
open Go.RowKit Go.Ulp
set_option linter.unusedVariables false
set_option linter.unusedSimpArgs false
set_option maxHeartbeats 2000000
set_option maxRecDepth 100000
end Go.Proofs.YtpgmchpdpgahfaaGreatDoor

set_option linter.unusedVariables false
set_option linter.unusedSimpArgs false
namespace Go.Ulp
open Go.RowKit
theorem limbs_short2 (A n : Nat) (hn : A ≤ 32 * n) (M : Nat) (h : M < 2 ^ A) : (limbs M).length ≤ n :=
  (limbs_le_bits M n).2 (Nat.lt_of_lt_of_le h (Nat.pow_le_pow_right (by omega) hn))
theorem limbs_ten (s : Nat) (h : s ≤ 24002) : (limbs (10 ^ s)).length ≤ 3002 := by
  refine limbs_short2 (4 * s + 1) 3002 (by omega) _ ?_
  rw [Nat.pow_succ, Nat.pow_mul]
  have h1 : (10 : Nat) ^ s ≤ (2 ^ 4) ^ s := Nat.pow_le_pow_left (by decide) s
  have h2 : 0 < (10 : Nat) ^ s := Nat.pow_pos (by omega)
  omega
/-- a ratio in memory -/
def RtAt (w : World) (g : Nat) (neg : Bool) (a b : Nat) : Prop := ∃ an cn bn dn, w.cell? ⟨g, 0, none⟩ = some (.bool neg) ∧ w.cell? ⟨g, 3, none⟩ = some (.slice an (limbs a).length cn) ∧ w.cell? ⟨g, 4, none⟩ = some (.slice bn (limbs b).length dn) ∧ Ns .u32 w an cn (limbs a) ∧ Ns .u32 w bn dn (limbs b)
theorem RtAt.below {w w' : World} {g : Nat} {neg : Bool} {a b : Nat} (h : RtAt w g neg a b) (hb : Below w.heap.size w w') : RtAt w' g neg a b := by
  obtain ⟨an, cn, bn, dn, h1, h2, h3, h4, h5⟩ := h
  exact ⟨an, cn, bn, dn, (hb.cell (World.block_lt_of_cell? _ _ h1)).trans h1, (hb.cell (World.block_lt_of_cell? _ _ h2)).trans h2, (hb.cell (World.block_lt_of_cell? _ _ h3)).trans h3, h4.below hb, h5.below hb⟩
def Fact.nn2 (q r : Nat) : Fact := ⟨fun v w => ∃ a c b d, v = .tuple #[.slice a (limbs q).length c, .slice b (limbs r).length d] ∧ Ns .u32 w a c (limbs q) ∧ Ns .u32 w b d (limbs r), fun _ _ _ h hb => by
  obtain ⟨a, c, b, d, h1, h2, h3⟩ := h; exact ⟨a, c, b, d, h1, h2.below hb, h3.below hb⟩⟩
def RetNB (w : World) (n : Nat) (c : Bool) (e : Ending) (w' : World) : Prop :=
  ∃ ao cap, e = .returned (.tuple #[.slice ao (limbs n).length cap, .bool c]) ∧ Ns .u32 w' ao cap (limbs n) ∧ Below w.heap.size w w'
end Go.Ulp
namespace Go.Proofs.YtpgmchpdpgahfaaGreatDoor
open Go.RowKit Go.Ulp
set_option linter.unusedVariables false
set_option linter.unusedSimpArgs false
set_option maxHeartbeats 1000000
set_option maxRecDepth 100000
theorem pow10_any (n : Nat) (hn : n ≤ 12000) (w : World) : Calls Tryz.prog 48 #[.int .u64 10, .int .i64 (n : Int)] w (RetNc w (10 ^ n)) := by
  have O1 := hid (show ∀ w, Calls Tryz.prog 39 #[.int .u64 1] w fun e w' => RetN w 1 e w' from fun w => natOf_any 1 (by omega) w)
  have O10 := hid (show ∀ w, Calls Tryz.prog 39 #[.int .u64 10] w fun e w' => RetN w 10 e w' from fun w => natOf_any 10 (by omega) w)
  go_enter Tryz.func48, Tryz.ntmps48
  go_wp2_with (go_at_call 39; (first
    | ((with_reducible refine (O1.out _).mono ?_); rintro en w1 ⟨a1, rfl, hN1, hb1⟩)
    | ((with_reducible refine (O10.out _).mono ?_); rintro en w2 ⟨a2, rfl, hN2, hb2⟩)))
  go_loopw [1, 5, 6] (fun s1 s5 s6 wr => ∃ (k s t : Nat) (b5 : Option Addr) (c5 : Nat) (b6 : Option Addr) (c6 : Nat), s1 = .int .i64 (k : Int) ∧ s5 = .slice b5 (limbs (10 ^ s)).length c5 ∧ s6 = .slice b6 (limbs (10 ^ t)).length c6 ∧ Ns .u32 wr b5 c5 (limbs (10 ^ s)) ∧ Ns .u32 wr b6 c6 (limbs (10 ^ t)) ∧ s + t * k = n ∧ t ≤ 2 * n + 1 ∧ k ≤ n ∧ Below w.heap.size w wr) (fun s1 _ _ _ => (intOf s1).toNat)
  case atStart => exact ⟨n, 0, 1, a1, _, a2, _, rfl, rfl, rfl, hN1.below hb2, hN2, by omega, by omega, by omega, below_trans hb1 hb2⟩
  case round =>
    obtain ⟨k, s, t, b5, c5, b6, c6, rfl, rfl, rfl, h5, h6, hst, ht, hkn, hb⟩ := hrel
    by_cases hk : 0 < k
    · have htn : t ≤ n := by have := Nat.le_mul_of_pos_right t hk; omega
      have ls := limbs_ten s (by omega)
      have lt := limbs_ten t (by omega)
      have TI := hid (show ∀ w, Ns .u32 w b5 c5 (limbs (10 ^ s)) → Ns .u32 w b6 c6 (limbs (10 ^ t)) → Calls Tryz.prog 37 #[.slice b5 (limbs (10 ^ s)).length c5, .slice b6 (limbs (10 ^ t)).length c6] w fun e w' => RetN w (10 ^ (s + t)) e w' from fun w h0 h1 => by
        rw [Nat.pow_add]
        exact times_any b5 b6 c5 c6 (10 ^ s) (10 ^ t) w h0 h1 (by omega) (by omega))
      have TX := hid (show ∀ w, Ns .u32 w b6 c6 (limbs (10 ^ t)) → Calls Tryz.prog 37 #[.slice b6 (limbs (10 ^ t)).length c6, .slice b6 (limbs (10 ^ t)).length c6] w fun e w' => RetN w (10 ^ (t + t)) e w' from fun w h0 => by
        rw [Nat.pow_add]
        exact times_any b6 b6 c6 c6 (10 ^ t) (10 ^ t) w h0 h0 (by omega) (by omega))
      have H5 := hid h5
      have H6 := hid h6
      have HS := hid (show (t + t) * (k / 2) = t * (2 * (k / 2)) by rw [← Nat.two_mul, Nat.mul_comm 2 t, Nat.mul_assoc])
      have HO := hid (show k % 2 = 1 → s + t + (t + t) * (k / 2) = n from fun h => by
        have h3 : t * k = t * (2 * (k / 2)) + t := by
          have h4 : t * k = t * (2 * (k / 2) + 1) := congrArg (t * ·) (by omega)
          rw [h4]; exact Nat.mul_succ _ _
        have := HS.out
        omega)
      have HE := hid (show ¬ k % 2 = 1 → s + (t + t) * (k / 2) = n from fun h => by
        have h4 : t * k = t * (2 * (k / 2)) := congrArg (t * ·) (by omega)
        have := HS.out
        omega)
      clear ls lt h5 h6 hst
      by_cases ho : k % 2 = 1
      · have ho2 : (k : Int) % 2 = 1 := by omega
        go_wp2_with (go_at_call 37; (first
          | ((with_reducible refine (TI.out _ H5.out H6.out).mono ?_); rintro en w3 ⟨a3, rfl, hN3, hb3⟩)
          | ((with_reducible refine (TX.out _ (H6.out.below hb3)).mono ?_); rintro en w4 ⟨a4, rfl, hN4, hb4⟩)))
        go_roundw
        case rel => exact ⟨k / 2, s + t, t + t, a3, _, a4, _, by go_num, rfl, rfl, hN3.below hb4, hN4, HO.out ho, by omega, by omega, below_trans (below_trans hb hb3) hb4⟩
        case measure => simp [intOf]; omega
      · have ho2 : (k : Int) % 2 = 0 := by omega
        clear TI
        go_wp2_with (go_at_call 37; (with_reducible refine (TX.out _ H6.out).mono ?_); rintro en w4 ⟨a4, rfl, hN4, hb4⟩)
        go_roundw
        case rel => exact ⟨k / 2, s, t + t, b5, _, a4, _, by go_num, rfl, rfl, H5.out.below hb4, hN4, HE.out ho, by omega, by omega, below_trans hb hb4⟩
        case measure => simp [intOf]; omega
    · have hk0 : k = 0 := by omega
      subst hk0
      have e : s = n := by omega
      subst e
      have H5 := hid h5
      clear h5 h6 hst
      go_wp2_with fail
      go_ret
      exact ⟨b5, c5, rfl, H5.out, hb⟩
theorem ratioRound_any (g : Nat) (neg : Bool) (a b : Nat) (mode : Int) (w : World) (h : RtAt w g neg a b) (ha : (limbs a).length ≤ 1000000) (hb : 0 < b) (hb2 : (limbs b).length ≤ 1000000) :
    Calls Tryz.prog 86 #[.pointer (some ⟨g, 0, none⟩), .int .i64 mode] w (RetNB w (rtN neg a b mode) (rtC a b)) := by
  obtain ⟨an, cn, bn, dn, k0, k3, k4, hN0, hN1⟩ := h
  obtain ⟨q, hq⟩ : ∃ q, q = a / b := ⟨_, rfl⟩
  obtain ⟨r, hr⟩ : ∃ r, r = a % b := ⟨_, rfl⟩
  have OV := hid (fun w h0 h1 => over_any an bn cn dn a b w h0 h1 ha hb)
  have hql : (limbs q).length ≤ (limbs a).length := limbs_len_mono (by rw [hq]; exact Nat.div_le_self _ _)
  have hrl : (limbs r).length ≤ (limbs b).length := limbs_len_mono (by rw [hr]; exact Nat.le_of_lt (Nat.mod_lt _ hb))
  obtain ⟨half, hhalf⟩ : ∃ x, x = cmpI ((2 * r : Nat) : Int) (b : Int) := ⟨_, rfl⟩
  obtain ⟨up, hup⟩ : ∃ x, x = upN neg (decide (q % 2 = 1)) half mode := ⟨_, rfl⟩
  have HN : rtN neg a b mode = if r ≠ 0 ∧ up = true then q + 1 else q := by unfold rtN; rw [← hq, ← hr, ← hhalf, ← hup]
  have HC : rtC a b = decide (r ≠ 0) := by unfold rtC; rw [← hr]
  rw [HN, HC]
  rw [← hq, ← hr] at OV
  obtain ⟨NN, hNN⟩ : ∃ N, N = if r ≠ 0 ∧ up = true then q + 1 else q := ⟨_, rfl⟩
  obtain ⟨CC, hCC⟩ : ∃ C, C = decide (r ≠ 0) := ⟨_, rfl⟩
  rw [← hNN, ← hCC]
  have HNN := hid hNN
  have HCC := hid hCC
  clear hNN hCC
  have LE := hid (show ∀ a c w, Ns .u32 w a c (limbs r) → Calls Tryz.prog 33 #[.slice a (limbs r).length c, .int .i64 1] w fun e w' => RetN w (2 * r) e w' from fun a c w k => by
    have h9 := leftN_any a c r 1 w k (by omega) (by omega)
    rw [Nat.pow_one, Nat.mul_comm] at h9
    exact h9)
  have CM := hid (show ∀ x c w, Ns .u32 w x c (limbs (2 * r)) → Ns .u32 w bn dn (limbs b) → Calls Tryz.prog 36 #[.slice x (limbs (2 * r)).length c, .slice bn (limbs b).length dn] w fun e w' => e = .returned (.int .i64 half) ∧ Below w.heap.size w w' from fun x c w k0 k1 => by
    have h9 := compare_any x bn c dn (2 * r) b w k0 k1
    rw [← hhalf] at h9
    exact h9.mono fun e w' ⟨h1, nq, h2⟩ => ⟨h1, by rw [h2]; exact below_drewN (Below.refl _ _) nq⟩)
  have PL := hid (show ∀ a b c d w, Ns .u32 w a c (limbs q) → Ns .u32 w b d (limbs 1) → Calls Tryz.prog 56 #[.slice a (limbs q).length c, .slice b (limbs 1).length d] w fun e w' => RetN w (q + 1) e w' from fun a b c d w k0 k1 => plus_any a b c d q 1 w k0 k1 (by omega) (by
    have : (limbs 1).length ≤ 1 := (digs_len_le 4294967296 (by omega) 1 1).2 (by omega)
    omega))
  have OF := hid (show ∀ w, Calls Tryz.prog 39 #[.int .u64 1] w fun e w' => RetN w 1 e w' from fun w => natOf_any 1 (by omega) w)
  have UP := hid (fun od w (h : od = decide (q % 2 = 1)) => show Calls Tryz.prog 71 #[.bool neg, .bool od, .int .i64 half, .int .i64 mode] w fun e w' => e = .returned (.bool up) ∧ w = w' from by subst h; rw [hup]; exact up_any _ _ _ _ w)
  have N0 := hid hN0
  have N1 := hid hN1
  have hcn := hN0.1
  have hcn2 := hN0.2.1
  have hdn := hN1.1
  have hdn2 := hN1.2.1
  unfold maxLen at hcn2 hdn2
  clear hN0 hN1 HN HC hup hhalf hq hr ha hb hb2 hql hrl
  go_enter Tryz.func86, Tryz.ntmps86
  go_wp2_with fail
  refine wp_region_grow 14 [10, 11, 12, 13, 14, 15, 16, 17, 18, 9, 19, 20, 6, 7] [Fact.is (.pointer (some ⟨g, 0, none⟩)), Fact.is (.pointer (some ⟨g, 0, none⟩)), Fact.is (.pointer (some ⟨g, 3, none⟩)), Fact.is (.slice an (limbs a).length cn), Fact.is (.pointer (some ⟨g, 0, none⟩)), Fact.is (.pointer (some ⟨g, 0, none⟩)), Fact.is (.pointer (some ⟨g, 4, none⟩)), Fact.is (.slice bn (limbs b).length dn), Fact.nn2 q r, Fact.nn2 q r, Fact.li q, Fact.li r, Fact.li q, Fact.li r] (by kernel_rfl) (by kernel_rfl) ⟨?o0, ?o1, ?o2, ?o3, ?o4, ?o5, ?o6, ?o7, ?o8, ?o9, ?o10, ?o11, ?o12, ?o13, trivial⟩ ?after
  case o0 => (refine StepOK.plain rfl ?_; intro ρ w1 R hρ hb hp hR; have e0 : ρ (.tmp 0) = .pointer (some ⟨g, 0, none⟩) := hρ.tmp 0 rfl; have hcon := hρ.con; have hfn := hρ.fn; clear hρ hp; unfold OpRun; go_simp; exact hR _ _ (Below.refl _ _) rfl)
  case o1 => (refine StepOK.plain rfl ?_; intro ρ w1 R hρ hb hp hR; have e10 : ρ (.tmp 10) = _ := hp 0 10 rfl rfl; have hcon := hρ.con; have hfn := hρ.fn; clear hρ hp; unfold OpRun; go_simp; exact hR _ _ (Below.refl _ _) rfl)
  case o2 => (refine StepOK.plain rfl ?_; intro ρ w1 R hρ hb hp hR; have e11 : ρ (.tmp 11) = _ := hp 1 11 rfl rfl; have hcon := hρ.con; have hfn := hρ.fn; clear hρ hp; unfold OpRun; go_simp; exact hR _ _ (Below.refl _ _) rfl)
  case o3 => (refine StepOK.plain rfl ?_; intro ρ w1 R hρ hb hp hR; have e12 : ρ (.tmp 12) = _ := hp 2 12 rfl rfl; have j3 := (hb.cell (World.block_lt_of_cell? _ _ k3)).trans k3; have hcon := hρ.con; have hfn := hρ.fn; clear hρ hp; unfold OpRun; go_simp; exact hR _ _ (Below.refl _ _) rfl)
  case o4 => (refine StepOK.plain rfl ?_; intro ρ w1 R hρ hb hp hR; have e0 : ρ (.tmp 0) = .pointer (some ⟨g, 0, none⟩) := hρ.tmp 0 rfl; have hcon := hρ.con; have hfn := hρ.fn; clear hρ hp; unfold OpRun; go_simp; exact hR _ _ (Below.refl _ _) rfl)
  case o5 => (refine StepOK.plain rfl ?_; intro ρ w1 R hρ hb hp hR; have e14 : ρ (.tmp 14) = _ := hp 4 14 rfl rfl; have hcon := hρ.con; have hfn := hρ.fn; clear hρ hp; unfold OpRun; go_simp; exact hR _ _ (Below.refl _ _) rfl)
  case o6 => (refine StepOK.plain rfl ?_; intro ρ w1 R hρ hb hp hR; have e15 : ρ (.tmp 15) = _ := hp 5 15 rfl rfl; have hcon := hρ.con; have hfn := hρ.fn; clear hρ hp; unfold OpRun; go_simp; exact hR _ _ (Below.refl _ _) rfl)
  case o7 => (refine StepOK.plain rfl ?_; intro ρ w1 R hρ hb hp hR; have e16 : ρ (.tmp 16) = _ := hp 6 16 rfl rfl; have j4 := (hb.cell (World.block_lt_of_cell? _ _ k4)).trans k4; have hcon := hρ.con; have hfn := hρ.fn; clear hρ hp; unfold OpRun; go_simp; exact hR _ _ (Below.refl _ _) rfl)
  case o8 => (refine StepOK.plain rfl ?_; intro ρ w1 R hρ hb hp hR; have e13 : ρ (.tmp 13) = _ := hp 3 13 rfl rfl; have e17 : ρ (.tmp 17) = _ := hp 7 17 rfl rfl; have hcon := hρ.con; have hfn := hρ.fn; clear hρ hp; unfold OpRun; go_simp; (refine (OV.out _ (N0.out.below hb) (N1.out.below hb)).mono ?_; rintro e wn ⟨aq, cq, ar, cr, rfl, hq9, hr9, hbn⟩; exact ⟨_, rfl, hR _ _ hbn ⟨aq, cq, ar, cr, rfl, hq9, hr9⟩⟩))
  case o9 => (refine StepOK.plain rfl ?_; intro ρ w1 R hρ hb hp hR; have f18 := hp 8 18 rfl rfl; have hcon := hρ.con; have hfn := hρ.fn; clear hρ hp; unfold OpRun; go_simp; exact hR _ _ (Below.refl _ _) f18)
  case o10 => (refine StepOK.plain rfl ?_; intro ρ w1 R hρ hb hp hR; have f9 := hp 9 9 rfl rfl; have hcon := hρ.con; have hfn := hρ.fn; clear hρ hp; unfold OpRun; go_simp; (obtain ⟨aq, cq, ar, cr, e9, hq9, hr9⟩ := f9; rw [e9]; exact hR _ _ (Below.refl _ _) ⟨_, _, rfl, hq9⟩))
  case o11 => (refine StepOK.plain rfl ?_; intro ρ w1 R hρ hb hp hR; have f9 := hp 9 9 rfl rfl; have hcon := hρ.con; have hfn := hρ.fn; clear hρ hp; unfold OpRun; go_simp; (obtain ⟨aq, cq, ar, cr, e9, hq9, hr9⟩ := f9; rw [e9]; exact hR _ _ (Below.refl _ _) ⟨_, _, rfl, hr9⟩))
  case o12 => (refine StepOK.plain rfl ?_; intro ρ w1 R hρ hb hp hR; have f19 := hp 10 19 rfl rfl; have hcon := hρ.con; have hfn := hρ.fn; clear hρ hp; unfold OpRun; go_simp; exact hR _ _ (Below.refl _ _) f19)
  case o13 => (refine StepOK.plain rfl ?_; intro ρ w1 R hρ hb hp hR; have f20 := hp 11 20 rfl rfl; have hcon := hρ.con; have hfn := hρ.fn; clear hρ hp; unfold OpRun; go_simp; exact hR _ _ (Below.refl _ _) f20)
  case after =>
    intro u wn hb hf
    have f6 := hf 12 6 (by omega) rfl
    have f7 := hf 13 7 (by omega) rfl
    clear hf
    simp only [putAll, Act.put, List.setIfInBounds_toArray, List.set_cons_zero, List.set_cons_succ, List.drop_succ_cons, List.drop_zero, List.drop_nil]
    obtain ⟨aq, cq, e6, hNq⟩ := f6
    obtain ⟨ar, cr, e7, hNr⟩ := f7
    rw [e6, e7]
    clear e6 e7
    have hcq := hNq.1
    have hcq2 := hNq.2.1
    have hcr := hNr.1
    have hcr2 := hNr.2.1
    unfold maxLen at hcq2 hcr2
    have NQ := hid hNq
    have NR := hid hNr
    have yb1 := hb
    clear hb
    obtain ⟨w1, hw1⟩ : ∃ W, W = wn := ⟨_, rfl⟩
    subst hw1
    have K0 := hid ((yb1.cell (World.block_lt_of_cell? _ _ k0)).trans k0)
    have K4 := hid ((yb1.cell (World.block_lt_of_cell? _ _ k4)).trans k4)
    have N1' := hid (N1.out.below yb1)
    clear N0 N1 k0 k3 k4 OV
    by_cases hr0 : r = 0
    · have hl0 : (limbs r).length = 0 := by rw [hr0]; rfl
      have HC : CC = false := HCC.out.trans (decide_eq_false (fun h => h hr0))
      have HQ : NN = q := HNN.out.trans (if_neg (fun h => h.1 hr0))
      clear HNN HCC
      subst HC
      clear hr0
      have HQQ := hid HQ
      clear HQ
      go_wp2_with fail
      go_ret2
      rw [HQQ.out]
      exact ⟨aq, cq, rfl, NQ.out, yb1⟩
    · have hl0 : 0 < (limbs r).length := by
        rcases Nat.eq_zero_or_pos (limbs r).length with h9 | h9
        · have := (limbs_nil r).1 (List.length_eq_zero_iff.1 h9); omega
        · exact h9
      have HC : CC = true := HCC.out.trans (decide_eq_true hr0)
      have HQ := hid (show (up = true → NN = q + 1) ∧ (up = false → NN = q) from ⟨fun hu => HNN.out.trans (if_pos ⟨hr0, hu⟩), fun hu => HNN.out.trans (if_neg (fun h => by rw [hu] at h; exact absurd h.2 (by simp)))⟩)
      have hne : (((limbs r).length : Int) == 0) = false := beq_eq_false_iff_ne.2 (by omega)
      clear HNN HCC
      subst HC
      clear hr0
      go_upto_region 4 with fail
      go_cut [8] (fun s8 wx => s8 = .bool (decide (q % 2 = 1)) ∧ wx = w1)
      case first =>
        by_cases hq0 : (limbs q).length = 0
        · have hqz : q = 0 := (limbs_nil q).1 (List.length_eq_zero_iff.1 hq0)
          have HO := hid (show decide (q % 2 = 1) = false by rw [hqz]; rfl)
          have hq1 : decide (0 < (limbs q).length) = false := decide_eq_false (by omega)
          clear hqz hq0
          go_wp2_with fail
          go_meet
          exact ⟨by rw [HO.out], rfl⟩
        · obtain ⟨b1, o1, rfl, hc1⟩ := NQ.out.2.2 (by omega)
          obtain ⟨x, hx⟩ : ∃ x, x = (limbs q).getD 0 0 := ⟨_, rfl⟩
          have k1 : w1.cell? ⟨b1, o1, none⟩ = some (.int .u32 (x : Int)) := by have := hc1 0 (by omega); rw [hx]; exact this
          have hxo : x % 2 = q % 2 := by rw [hx]; exact limbs_odd q (by omega)
          have hx2 : x < 4294967296 := by rw [hx]; exact (limbs_lim q).getD (by omega) 0
          have hpos : 0 < (limbs q).length := by omega
          have HO := hid (show ((x : Int) % 2 == 1) = decide (q % 2 = 1) by rw [Bool.eq_iff_iff, beq_iff_eq, decide_eq_true_eq]; omega)
          clear hc1 hx hxo hq0
          go_wp2_with fail
          go_meet
          exact ⟨by rw [HO.out], rfl⟩
      case rest =>
        obtain ⟨rfl, hwc⟩ := hcut
        subst hwc
        have UPo := hid (fun w => UP.out (decide (q % 2 = 1)) w rfl)
        generalize decide (q % 2 = 1) = od at *
        go_upto_region 5 with fail
        refine wp_region_grow 15 [35, 36, 37, 38, 39, 40, 41, 42, 43, 44, 45, 46, 47, 48, 49] [Fact.is (.pointer (some ⟨g, 0, none⟩)), Fact.is (.pointer (some ⟨g, 0, none⟩)), Fact.is (.pointer (some ⟨g, 0, none⟩)), Fact.is (.pointer (some ⟨g, 0, none⟩)), Fact.is (.bool neg), Fact.is (.bool od), Fact.is (.slice ar (limbs r).length cr), Fact.li (2 * r), Fact.is (.pointer (some ⟨g, 0, none⟩)), Fact.is (.pointer (some ⟨g, 0, none⟩)), Fact.is (.pointer (some ⟨g, 4, none⟩)), Fact.is (.slice bn (limbs b).length dn), Fact.is (.int .i64 half), Fact.is (.int .i64 mode), Fact.is (.bool up)] (by kernel_rfl) (by kernel_rfl) ⟨?o0, ?o1, ?o2, ?o3, ?o4, ?o5, ?o6, ?o7, ?o8, ?o9, ?o10, ?o11, ?o12, ?o13, ?o14, trivial⟩ ?after
        case o0 => (refine StepOK.plain rfl ?_; intro ρ w1 R hρ hb hp hR; have e0 : ρ (.tmp 0) = .pointer (some ⟨g, 0, none⟩) := hρ.tmp 0 rfl; have hcon := hρ.con; have hfn := hρ.fn; clear hρ hp; unfold OpRun; go_simp; exact hR _ _ (Below.refl _ _) rfl)
        case o1 => (refine StepOK.plain rfl ?_; intro ρ w1 R hρ hb hp hR; have e35 : ρ (.tmp 35) = _ := hp 0 35 rfl rfl; have hcon := hρ.con; have hfn := hρ.fn; clear hρ hp; unfold OpRun; go_simp; exact hR _ _ (Below.refl _ _) rfl)
        case o2 => (refine StepOK.plain rfl ?_; intro ρ w1 R hρ hb hp hR; have e36 : ρ (.tmp 36) = _ := hp 1 36 rfl rfl; have hcon := hρ.con; have hfn := hρ.fn; clear hρ hp; unfold OpRun; go_simp; exact hR _ _ (Below.refl _ _) rfl)
        case o3 => (refine StepOK.plain rfl ?_; intro ρ w1 R hρ hb hp hR; have e37 : ρ (.tmp 37) = _ := hp 2 37 rfl rfl; have hcon := hρ.con; have hfn := hρ.fn; clear hρ hp; unfold OpRun; go_simp; exact hR _ _ (Below.refl _ _) rfl)
        case o4 => (refine StepOK.plain rfl ?_; intro ρ w1 R hρ hb hp hR; have e38 : ρ (.tmp 38) = _ := hp 3 38 rfl rfl; have j0 := (hb.cell (World.block_lt_of_cell? _ _ K0.out)).trans K0.out; have hcon := hρ.con; have hfn := hρ.fn; clear hρ hp; unfold OpRun; go_simp; exact hR _ _ (Below.refl _ _) rfl)
        case o5 => (refine StepOK.plain rfl ?_; intro ρ w1 R hρ hb hp hR; have e8 : ρ (.tmp 8) = .bool od := hρ.tmp 8 rfl; have hcon := hρ.con; have hfn := hρ.fn; clear hρ hp; unfold OpRun; go_simp; exact hR _ _ (Below.refl _ _) rfl)
        case o6 => (refine StepOK.plain rfl ?_; intro ρ w1 R hρ hb hp hR; have e7 : ρ (.tmp 7) = .slice ar (limbs r).length cr := hρ.tmp 7 rfl; have hcon := hρ.con; have hfn := hρ.fn; clear hρ hp; unfold OpRun; go_simp; exact hR _ _ (Below.refl _ _) rfl)
        case o7 => (refine StepOK.plain rfl ?_; intro ρ w1 R hρ hb hp hR; have e41 : ρ (.tmp 41) = _ := hp 6 41 rfl rfl; have hcon := hρ.con; have hfn := hρ.fn; clear hρ hp; unfold OpRun; go_simp; (refine (LE.out _ _ _ (NR.out.below hb)).mono ?_; rintro e wn ⟨a9, rfl, hn9, hbn⟩; exact ⟨_, rfl, hR _ _ hbn ⟨a9, _, rfl, hn9⟩⟩))
        case o8 => (refine StepOK.plain rfl ?_; intro ρ w1 R hρ hb hp hR; have e0 : ρ (.tmp 0) = .pointer (some ⟨g, 0, none⟩) := hρ.tmp 0 rfl; have hcon := hρ.con; have hfn := hρ.fn; clear hρ hp; unfold OpRun; go_simp; exact hR _ _ (Below.refl _ _) rfl)
        case o9 => (refine StepOK.plain rfl ?_; intro ρ w1 R hρ hb hp hR; have e43 : ρ (.tmp 43) = _ := hp 8 43 rfl rfl; have hcon := hρ.con; have hfn := hρ.fn; clear hρ hp; unfold OpRun; go_simp; exact hR _ _ (Below.refl _ _) rfl)
        case o10 => (refine StepOK.plain rfl ?_; intro ρ w1 R hρ hb hp hR; have e44 : ρ (.tmp 44) = _ := hp 9 44 rfl rfl; have hcon := hρ.con; have hfn := hρ.fn; clear hρ hp; unfold OpRun; go_simp; exact hR _ _ (Below.refl _ _) rfl)
        case o11 => (refine StepOK.plain rfl ?_; intro ρ w1 R hρ hb hp hR; have e45 : ρ (.tmp 45) = _ := hp 10 45 rfl rfl; have j4 := (hb.cell (World.block_lt_of_cell? _ _ K4.out)).trans K4.out; have hcon := hρ.con; have hfn := hρ.fn; clear hρ hp; unfold OpRun; go_simp; exact hR _ _ (Below.refl _ _) rfl)
        case o12 => (refine StepOK.plain rfl ?_; intro ρ w1 R hρ hb hp hR; have f42 := hp 7 42 rfl rfl; have e46 : ρ (.tmp 46) = _ := hp 11 46 rfl rfl; obtain ⟨a9, c9, e42, hn9⟩ := f42; have hcon := hρ.con; have hfn := hρ.fn; clear hρ hp; unfold OpRun; go_simp; (refine (CM.out _ _ _ hn9 (N1'.out.below hb)).mono ?_; rintro e wn ⟨rfl, hbn⟩; exact ⟨_, rfl, hR _ _ hbn rfl⟩))
        case o13 => (refine StepOK.plain rfl ?_; intro ρ w1 R hρ hb hp hR; have e1 : ρ (.tmp 1) = .int .i64 mode := hρ.tmp 1 rfl; have hcon := hρ.con; have hfn := hρ.fn; clear hρ hp; unfold OpRun; go_simp; exact hR _ _ (Below.refl _ _) rfl)
        case o14 => (refine StepOK.plain rfl ?_; intro ρ w1 R hρ hb hp hR; have e39 : ρ (.tmp 39) = _ := hp 4 39 rfl rfl; have e40 : ρ (.tmp 40) = _ := hp 5 40 rfl rfl; have e47 : ρ (.tmp 47) = _ := hp 12 47 rfl rfl; have e48 : ρ (.tmp 48) = _ := hp 13 48 rfl rfl; have hcon := hρ.con; have hfn := hρ.fn; clear hρ hp; unfold OpRun; go_simp; (refine (UPo.out _).mono ?_; rintro e wn ⟨rfl, rfl⟩; exact ⟨_, rfl, hR _ _ (Below.refl _ _) rfl⟩))
        case after =>
          intro u wn hb hf
          have e49 : u 49 = _ := hf 14 49 (by omega) rfl
          clear hf
          simp only [putAll, Act.put, List.setIfInBounds_toArray, List.set_cons_zero, List.set_cons_succ, List.drop_succ_cons, List.drop_zero, List.drop_nil]
          rw [e49]
          have yb2 := below_trans yb1 hb
          have NQ2 := hid (NQ.out.below hb)
          clear hb yb1 K0 K4 LE CM UP UPo NR N1'
          cases up
          · go_wp2_with fail
            go_ret2
            rw [HQ.out.2 (by first | rfl | trivial)]
            exact ⟨aq, cq, rfl, NQ2.out, yb2⟩
          · go_wp2_with (first
              | (go_at_call 39; (with_reducible refine (OF.out _).mono ?_); rintro e w8 ⟨a8, rfl, hN8, hb8⟩)
              | (go_at_call 56; (with_reducible refine (PL.out _ _ _ _ _ (NQ2.out.below hb8) hN8).mono ?_); rintro e w9 ⟨a9, rfl, hN9, hb9⟩))
            go_ret2
            rw [HQ.out.1 (by first | rfl | trivial)]
            exact ⟨_, _, rfl, hN9, below_trans (below_trans yb2 hb8) hb9⟩
end Go.Proofs.YtpgmchpdpgahfaaGreatDoor
