/- Rounding, the program's side: To, Part. -/
import Derived.Test.YtdoiobdomngccaaRn4
namespace Go.Ulp
open Go.RowKit
def RetX3 (w : World) (x : Int) (ch : Bool) (er : Int) (e : Ending) (w' : World) : Prop := e = .returned (.tuple #[.int .u64 x, .bool ch, .int .i64 er]) ∧ Below w.heap.size w w'
def toE (neg : Bool) (L : List Nat) (e mode : Int) : Int := if dyadE neg L e = 0 then (if knownB mode = true then 0 else 1) else dyadE neg L e
def toX (neg : Bool) (L : List Nat) (e mode : Int) : Int := if toE neg L e mode = 0 then numX neg (lval L) e mode else 0
def toC (neg : Bool) (L : List Nat) (e mode : Int) : Bool := if toE neg L e mode = 0 then numC neg (lval L) e mode else false
/-- is it 1? -/
def oneB (L : List Nat) (e : Int) : Bool := decide (L.length = 1 ∧ L.getD 0 0 = 1 ∧ e = 0)
def partE (neg : Bool) (L : List Nat) (e : Int) (neg' : Bool) (L' : List Nat) (e' mode : Int) : Int :=
  if dyadE neg L e = 0 then (if dyadE neg' L' e' = 0 then (if knownB mode = false ∨ (0 < L'.length ∧ oneB L' e' = false) then 1 else if 390 < L.length then 2 else 0) else dyadE neg' L' e') else dyadE neg L e
def partX (neg : Bool) (L : List Nat) (e : Int) (neg' : Bool) (L' : List Nat) (e' mode : Int) : Int :=
  if partE neg L e neg' L' e' mode = 0 then numX (besNeg neg (lval L) (dSign neg' L'.length)) (besM neg (lval L) (dSign neg' L'.length)) (besE (lval L) e (dSign neg' L'.length)) mode else 0
def partC (neg : Bool) (L : List Nat) (e : Int) (neg' : Bool) (L' : List Nat) (e' mode : Int) : Bool :=
  if partE neg L e neg' L' e' mode = 0 then numC (besNeg neg (lval L) (dSign neg' L'.length)) (besM neg (lval L) (dSign neg' L'.length)) (besE (lval L) e (dSign neg' L'.length)) mode else false
/-- a Dyad's fields among the values of a region -/
def Fact.dy (neg : Bool) (m : Nat) (x : Int) : Fact := ⟨fun v w => ∃ am cm, v = .agg #[.bool neg, .slice am (limbs m).length cm, .int .i64 x] ∧ Ns .u32 w am cm (limbs m), fun _ _ _ h hb => by
  obtain ⟨am, cm, h1, h2⟩ := h
  exact ⟨am, cm, h1, h2.below hb⟩⟩
theorem bes_bounds (neg : Bool) (m : Nat) (e sd : Int) (hm : (limbs m).length ≤ 400) (he : -10000 ≤ e ∧ e ≤ 10000) (hz : m = 0 → e = 0) :
    (limbs (besM neg m sd)).length ≤ 10000 ∧ (-100000 ≤ besE m e sd ∧ besE m e sd ≤ 100000) ∧ (besM neg m sd = 0 → besE m e sd = 0) := by
  have h1 : (limbs 1).length ≤ 1 := (digs_len_le 4294967296 (by omega) 1 1).2 (by omega)
  by_cases hs : sd = 0
  · have e1 : besM neg m sd = m := by unfold besM; rw [if_pos hs]
    have e2 : besE m e sd = e := by unfold besE; rw [if_pos hs]
    rw [e1, e2]
    exact ⟨by omega, by omega, hz⟩
  · by_cases hm0 : m = 0
    · have e1 : besM neg m sd = 1 := by unfold besM; rw [if_neg hs, if_pos hm0]
      have e2 : besE m e sd = -2000 := by unfold besE; rw [if_neg hs, if_pos hm0]
      rw [e1, e2]
      exact ⟨by omega, by omega, fun h => by omega⟩
    · have e2 : besE m e sd = e - 64 := by unfold besE; rw [if_neg hs, if_neg hm0]
      have e3 : besM neg m sd ≤ m * 2 ^ 64 + 1 ∧ besM neg m sd ≠ 0 := by
        have hp : 2 ≤ m * 2 ^ 64 := Nat.le_trans (show 2 ≤ 1 * 2 ^ 64 by decide) (Nat.mul_le_mul_right _ (by omega))
        unfold besM; rw [if_neg hs, if_neg hm0]; split <;> omega
      rw [e2]
      refine ⟨?_, by omega, fun h => absurd h e3.2⟩
      have h2 := limbs_len_mono e3.1
      have h3 := limbs_len_shl m 64 2 (by omega)
      have h4 := limbs_len_add (m * 2 ^ 64) 1 _ _ h3 h1
      omega
theorem ret3 {a b e f : Int} {c d : Bool} (h : a = b) (h' : c = d) (h'' : e = f) : Ending.returned (.tuple #[.int .u64 a, .bool c, .int .i64 e]) = .returned (.tuple #[.int .u64 b, .bool d, .int .i64 f]) := by rw [h, h', h'']
end Go.Ulp
namespace Go.Proofs.Ytdoiobdomngccaa
open Go.RowKit Go.Ulp
set_option linter.unusedVariables false
set_option linter.unusedSimpArgs false
set_option maxHeartbeats 1000000
set_option maxRecDepth 100000
theorem roundTo_any (neg : Bool) (ao : Option Addr) (cap : Nat) (L : List Nat) (e mode : Int) (w : World) (hN : Ns .u32 w ao cap L) (hl : Lim L) :
    Calls Try.prog 55 #[.agg #[.bool neg, .slice ao L.length cap, .int .i64 e], .int .i64 mode] w (RetX3 w (toX neg L e mode) (toC neg L e mode) (toE neg L e mode)) := by
  have CK := hid (fun w h => dyadCheck_any neg ao cap L e w h hl)
  have zA0 : QL 82 (w.alloc (.cells #[.bool neg, .slice ao L.length cap, .int .i64 e] 82)) w.heap.size neg (.slice ao L.length cap) e := QL.made rfl
  have yb0 := below_alloc w (.cells #[.bool neg, .slice ao L.length cap, .int .i64 e] 82)
  have H := hid hN
  have KN := hid (fun w => known_any mode w)
  obtain ⟨E, hE⟩ : ∃ E, E = dyadE neg L e := ⟨_, rfl⟩
  rw [← hE] at CK
  by_cases h0 : E = 0
  · subst h0
    obtain ⟨b1, b2, b3, hL, hz, -⟩ := dyadE_zero hl hE.symm
    cases hk : knownB mode
    · have te : toE neg L e mode = 1 := by unfold toE; rw [if_pos hE.symm, hk]; rfl
      have tx : toX neg L e mode = 0 := by unfold toX; rw [te]; rfl
      have tc : toC neg L e mode = false := by unfold toC; rw [te]; rfl
      rw [te, tx, tc]
      rw [hk] at KN
      clear hE hL hz te tx tc hk hN
      go_enter Try.func55, Try.ntmps55
      go_upto_region 2 with (go_at_call 103; (with_reducible refine (CK.out _ (H.out.below yb0)).mono ?_); rintro en w1 ⟨rfl, hb1⟩)
      go_wp2_with (go_at_call 104; (with_reducible refine (KN.out _).mono ?_); rintro en w2 ⟨rfl, rfl⟩)
      refine bodyPost_ret (by simp [results, Try.results55, go_sem]; try rfl) rfl ?_
      exact ⟨rfl, below_trans yb0 hb1⟩
    · have te : toE neg L e mode = 0 := by unfold toE; rw [if_pos hE.symm, hk]; rfl
      have tx : toX neg L e mode = numX neg (lval L) e mode := by unfold toX; rw [if_pos te]
      have tc : toC neg L e mode = numC neg (lval L) e mode := by unfold toC; rw [if_pos te]
      rw [te, tx, tc]
      rw [hk] at KN
      have hlen : L.length = (limbs (lval L)).length := congrArg List.length hL
      have hH2 := H.out
      rw [hL] at hH2
      have NU := hid (show ∀ w, Ns .u32 w ao cap (limbs (lval L)) → Calls Try.prog 105 #[.agg #[.bool neg, .slice ao L.length cap, .int .i64 e], .int .i64 mode] w (RetX w (numX neg (lval L) e mode) (numC neg (lval L) e mode)) from fun w h => by
        rw [hlen]; exact number_any neg ao cap (lval L) e mode w h (by omega) (by omega) (fun h => (hz h).2))
      have H2 := hid hH2
      generalize numX neg (lval L) e mode = X at *
      generalize numC neg (lval L) e mode = C at *
      clear hE hL hz te tx tc hk hN hlen hH2
      go_enter Try.func55, Try.ntmps55
      go_upto_region 2 with (go_at_call 103; (with_reducible refine (CK.out _ (H.out.below yb0)).mono ?_); rintro en w1 ⟨rfl, hb1⟩)
      have zA := zA0.below hb1
      have yb1 := below_trans yb0 hb1
      obtain ⟨⟨j0, j1, -, -, -⟩, j2, -⟩ := id zA
      go_wp2_with (first
        | (go_at_call 104; (with_reducible refine (KN.out _).mono ?_); rintro en w2 ⟨rfl, rfl⟩)
        | (go_at_call 105; (with_reducible refine (NU.out _ (H2.out.below yb1)).mono ?_); rintro en w3 ⟨rfl, hb3⟩))
      refine bodyPost_ret (by simp [results, Try.results55, go_sem]; try rfl) rfl ?_
      exact ⟨rfl, below_trans yb1 hb3⟩
  · have hb : (E == 0) = false := beq_eq_false_iff_ne.2 h0
    have te : toE neg L e mode = E := by unfold toE; rw [if_neg (by rw [← hE]; exact h0), hE]
    have tx : toX neg L e mode = 0 := by unfold toX; rw [te, if_neg h0]
    have tc : toC neg L e mode = false := by unfold toC; rw [te, if_neg h0]
    rw [te, tx, tc]
    clear hE te tx tc hN
    go_enter Try.func55, Try.ntmps55
    go_upto_region 2 with (go_at_call 103; (with_reducible refine (CK.out _ (H.out.below yb0)).mono ?_); rintro en w1 ⟨rfl, hb1⟩)
    go_wp2_with fail
    refine bodyPost_ret (by simp [results, Try.results55, go_sem]; try rfl) rfl ?_
    exact ⟨rfl, below_trans yb0 hb1⟩
theorem roundPart_any (neg : Bool) (ao : Option Addr) (cap : Nat) (L : List Nat) (e : Int) (neg' : Bool) (ao' : Option Addr) (cap' : Nat) (L' : List Nat) (e' mode : Int) (w : World) (hN : Ns .u32 w ao cap L) (hl : Lim L) (hN' : Ns .u32 w ao' cap' L') (hl' : Lim L') :
    Calls Try.prog 56 #[.agg #[.bool neg, .slice ao L.length cap, .int .i64 e], .agg #[.bool neg', .slice ao' L'.length cap', .int .i64 e'], .int .i64 mode] w (RetX3 w (partX neg L e neg' L' e' mode) (partC neg L e neg' L' e' mode) (partE neg L e neg' L' e' mode)) := by
  have CK := hid (fun w h => dyadCheck_any neg ao cap L e w h hl)
  have CK' := hid (fun w h => dyadCheck_any neg' ao' cap' L' e' w h hl')
  have zA0 : QL 82 ((w.alloc (.cells #[.bool neg, .slice ao L.length cap, .int .i64 e] 82)).alloc (.cells #[.bool neg', .slice ao' L'.length cap', .int .i64 e'] 82)) w.heap.size neg (.slice ao L.length cap) e := (QL.made rfl).alloc _
  have zB0 : QL 82 ((w.alloc (.cells #[.bool neg, .slice ao L.length cap, .int .i64 e] 82)).alloc (.cells #[.bool neg', .slice ao' L'.length cap', .int .i64 e'] 82)) (w.heap.size + 1) neg' (.slice ao' L'.length cap') e' := QL.made (by first | omega | (simp; done) | (simp; omega))
  have yb0 : Below w.heap.size w ((w.alloc (.cells #[.bool neg, .slice ao L.length cap, .int .i64 e] 82)).alloc (.cells #[.bool neg', .slice ao' L'.length cap', .int .i64 e'] 82)) := by (repeat' (first | (with_reducible assumption) | (with_reducible exact Below.refl _ _) | (with_reducible refine below_al ?_ _) | (with_reducible refine below_drewN ?_ _) | (with_reducible refine Below.drew ?_) | (with_reducible refine Below.alloc ?_ ?_ _) | (with_reducible refine Below.setCell ?_ ?_ _) | (refine below_trans ?_ (by assumption)) | go_size))
  have H := hid hN
  have H' := hid hN'
  have KN := hid (fun w => known_any mode w)
  obtain ⟨E, hE⟩ : ∃ E, E = dyadE neg L e := ⟨_, rfl⟩
  obtain ⟨E', hE'⟩ : ∃ E, E = dyadE neg' L' e' := ⟨_, rfl⟩
  rw [← hE] at CK
  rw [← hE'] at CK'
  have TE := hid (show partE neg L e neg' L' e' mode = if E = 0 then (if E' = 0 then (if knownB mode = false ∨ (0 < L'.length ∧ oneB L' e' = false) then 1 else if 390 < L.length then 2 else 0) else E') else E by unfold partE; rw [← hE, ← hE'])
  have TX := hid (show ∀ T, partE neg L e neg' L' e' mode = T → T ≠ 0 → partX neg L e neg' L' e' mode = 0 ∧ partC neg L e neg' L' e' mode = false from fun T h h0 => by unfold partX partC; rw [h, if_neg h0, if_neg h0]; exact ⟨rfl, rfl⟩)
  by_cases h0 : E = 0
  · by_cases h0' : E' = 0
    · have hE0 := hE
      rw [h0] at hE0
      have hE0' := hE'
      rw [h0'] at hE0'
      obtain ⟨b1, b2, b3, hL, hz, -⟩ := dyadE_zero hl hE0.symm
      obtain ⟨b1', b2', b3', hL', hz', -⟩ := dyadE_zero hl' hE0'.symm
      subst h0
      subst h0'
      have TE2 := TE.out
      rw [if_pos rfl, if_pos rfl] at TE2
      have TEh := hid TE2
      have hlen : L.length = (limbs (lval L)).length := congrArg List.length hL
      have hH2 := H.out
      rw [hL] at hH2
      have H2 := hid hH2
      have BS := hid (show ∀ sd w, Ns .u32 w ao cap (limbs (lval L)) → Calls Try.prog 106 #[.agg #[.bool neg, .slice ao L.length cap, .int .i64 e], .int .i64 sd] w (RetDy w (besNeg neg (lval L) sd) (besM neg (lval L) sd) (besE (lval L) e sd)) from fun sd w h => by
        rw [hlen]; exact beside_any neg (lval L) ao cap e sd w h (by omega) (by omega))
      have hcap := H'.out.1
      have hcap2 := H'.out.2.1
      unfold maxLen at hcap2
      obtain ⟨ob, hob⟩ : ∃ ob, ob = oneB L' e' := ⟨_, rfl⟩
      rw [← hob] at TEh
      have HOB := hid hob
      obtain ⟨n', hn'⟩ : ∃ n, n = L'.length := ⟨_, rfl⟩
      have HL := hid hlen
      have HZ := hid hz
      clear TE TE2 hE hE' hE0 hE0' hL hL' hz hz' hN hN' hH2 hlen hob
      go_enter Try.func56, Try.ntmps56
      go_upto_region 7 with (go_at_call 103; (first
        | ((with_reducible refine (CK.out _ (H.out.below yb0)).mono ?_); rintro en w1 ⟨rfl, hb1⟩; have zA1 := zA0.below hb1; have zB1 := zB0.below hb1; have yb1 := below_trans yb0 hb1; obtain ⟨i0, i1, i2⟩ := (⟨zB1.1.1, zB1.1.2.1, zB1.2.1⟩ : _ ∧ _ ∧ _))
        | ((with_reducible refine (CK'.out _ (H'.out.below yb1)).mono ?_); rintro en w2 ⟨rfl, hb2⟩)))
      have zA := zA1.below hb2
      have zB := zB1.below hb2
      have yb2 := below_trans yb1 hb2
      have H3 := hid (H'.out.below yb2)
      clear zA1 zB1 yb1 hb1 hb2 zA0 zB0 yb0 i0 i1 i2 CK CK'
      obtain ⟨⟨i0, i1, -, -, -⟩, i2, -⟩ := id zB
      go_cut [11] (fun s11 wx => s11 = .bool ob ∧ wx = w2)
      case first =>
        by_cases h1 : L'.length = 1
        · obtain ⟨b, off, rfl, hc⟩ := H3.out.2.2 (by omega)
          have hc := hc 0 (by omega)
          unfold lb at hc
          obtain ⟨x, hx⟩ : ∃ x, x = L'.getD 0 0 := ⟨_, rfl⟩
          rw [← hx, Nat.add_zero] at hc
          rw [h1] at i1 hcap
          have H6 := hid (show ob = (((x : Int) == 1) && (e' == 0)) by
            rw [HOB.out, oneB, Bool.eq_iff_iff, decide_eq_true_eq, Bool.and_eq_true, beq_iff_eq, beq_iff_eq, ← hx]; omega)
          clear hx h1
          by_cases hx1 : ((x : Int) == 1) = true
          · go_wp2_with fail
            go_meet
            exact ⟨by rw [H6.out, hx1, Bool.true_and], rfl⟩
          · have hx2 : ((x : Int) == 1) = false := by simpa using hx1
            clear hx1
            go_wp2_with fail
            go_meet
            exact ⟨by rw [H6.out, hx2]; rfl, rfl⟩
        · have hb : ((L'.length : Int) == 1) = false := beq_eq_false_iff_ne.2 (by omega)
          have H6 := hid (show ob = false by rw [HOB.out, oneB, decide_eq_false_iff_not]; exact fun h => h1 h.1)
          clear h1
          go_wp2_with fail
          go_meet
          exact ⟨by rw [H6.out], rfl⟩
      case rest =>
        obtain ⟨rfl, hwc⟩ := hcut
        subst hwc
        cases hk : knownB mode
        · have te : partE neg L e neg' L' e' mode = 1 := by rw [TEh.out, if_pos (.inl hk)]
          obtain ⟨tx, tc⟩ := TX.out 1 te (by omega)
          have HF := hid (And.intro te (And.intro tx tc))
          rw [hk] at KN
          clear te tx tc hk
          go_wp2_with (go_at_call 104; (with_reducible refine (KN.out _).mono ?_); rintro en w2 ⟨rfl, rfl⟩)
          refine bodyPost_ret (by simp [results, Try.results56, go_sem]; try rfl) rfl ?_
          exact ⟨ret3 HF.out.2.1.symm HF.out.2.2.symm HF.out.1.symm, yb2⟩
        · rw [hk] at KN
          by_cases hbad : 0 < L'.length ∧ ob = false
          · have te : partE neg L e neg' L' e' mode = 1 := by rw [TEh.out, if_pos (.inr hbad)]
            obtain ⟨tx, tc⟩ := TX.out 1 te (by omega)
            have HF := hid (And.intro te (And.intro tx tc))
            obtain ⟨hp, rfl⟩ := hbad
            clear te tx tc hk
            go_wp2_with (go_at_call 104; (with_reducible refine (KN.out _).mono ?_); rintro en w2 ⟨rfl, rfl⟩)
            refine bodyPost_ret (by simp [results, Try.results56, go_sem]; try rfl) rfl ?_
            exact ⟨ret3 HF.out.2.1.symm HF.out.2.2.symm HF.out.1.symm, yb2⟩
          · have te : partE neg L e neg' L' e' mode = if 390 < L.length then 2 else 0 := by rw [TEh.out, if_neg (fun h => h.elim (fun h => by rw [hk] at h; cases h) hbad)]
            go_upto_region 8 with fail
            go_cut [52] (fun s52 wx => s52 = .bool false ∧ wx = wc)
            case first =>
              clear te
              by_cases hp : 0 < L'.length
              · have hob2 : ob = true := by cases ob; · exact absurd ⟨hp, rfl⟩ hbad
                                            · rfl
                subst hob2
                clear hbad
                go_wp2_with (go_at_call 104; (with_reducible refine (KN.out _).mono ?_); rintro en w2 ⟨rfl, rfl⟩)
                go_meet
                exact ⟨rfl, rfl⟩
              · have hp0 : L'.length = 0 := by omega
                rw [hp0] at i1
                clear hbad hp hp0
                go_wp2_with (go_at_call 104; (with_reducible refine (KN.out _).mono ?_); rintro en w2 ⟨rfl, rfl⟩)
                go_meet
                exact ⟨rfl, rfl⟩
            case rest =>
              obtain ⟨rfl, rfl⟩ := hcut
              obtain ⟨⟨j0, j1, -, -, -⟩, j2, -⟩ := id zA
              by_cases h9 : 390 < L.length
              · have te2 : partE neg L e neg' L' e' mode = 2 := by rw [te, if_pos h9]
                obtain ⟨tx, tc⟩ := TX.out 2 te2 (by omega)
                have HF := hid (And.intro te2 (And.intro tx tc))
                have h9i : (390 : Int) < (L.length : Int) := by omega
                clear te te2 tx tc hk
                go_wp2_with fail
                refine bodyPost_ret (by simp [results, Try.results56, go_sem]; try rfl) rfl ?_
                exact ⟨ret3 HF.out.2.1.symm HF.out.2.2.symm HF.out.1.symm, yb2⟩
              · have te2 : partE neg L e neg' L' e' mode = 0 := by rw [te, if_neg h9]
                have h9i : ¬ (390 : Int) < (L.length : Int) := by omega
                obtain ⟨sd, hsd⟩ : ∃ s, s = dSign neg' L'.length := ⟨_, rfl⟩
                obtain ⟨X, hX⟩ : ∃ X, X = numX (besNeg neg (lval L) sd) (besM neg (lval L) sd) (besE (lval L) e sd) mode := ⟨_, rfl⟩
                obtain ⟨C, hC⟩ : ∃ C, C = numC (besNeg neg (lval L) sd) (besM neg (lval L) sd) (besE (lval L) e sd) mode := ⟨_, rfl⟩
                have tx : partX neg L e neg' L' e' mode = X := by unfold partX; rw [if_pos te2, ← hsd, hX]
                have tc : partC neg L e neg' L' e' mode = C := by unfold partC; rw [if_pos te2, ← hsd, hC]
                have HF := hid (And.intro te2 (And.intro tx tc))
                have SG := hid (show ∀ w, Calls Try.prog 107 #[.agg #[.bool neg', .slice ao' L'.length cap', .int .i64 e']] w fun en w' => en = .returned (.int .i64 sd) ∧ Below w.heap.size w w' from fun w => by rw [hsd]; exact dyadSign_any neg' ao' L'.length cap' e' w)
                have NU := hid (show ∀ a c w, Ns .u32 w a c (limbs (besM neg (lval L) sd)) → Calls Try.prog 105 #[.agg #[.bool (besNeg neg (lval L) sd), .slice a (limbs (besM neg (lval L) sd)).length c, .int .i64 (besE (lval L) e sd)], .int .i64 mode] w (RetX w X C) from fun a c w h => by
                  rw [hX, hC]
                  obtain ⟨g1, g2, g3⟩ := bes_bounds neg (lval L) e sd (by rw [← HL.out]; exact b1) ⟨b2, b3⟩ (fun h => (HZ.out h).2)
                  exact number_any _ a c _ _ mode w h g1 g2 g3)
                have BS1 := hid (fun w h => BS.out sd w h)
                generalize besNeg neg (lval L) sd = nb at *
                generalize besM neg (lval L) sd = mb at *
                generalize besE (lval L) e sd = xb at *
                clear te te2 tx tc hk hX hC hsd BS
                go_upto_region 12 with fail
                refine wp_region_grow 11 [58, 59, 60, 61, 62, 63, 57, 64, 65, 12, 13] [Fact.is (.agg #[.bool neg, .slice ao L.length cap, .int .i64 e]), Fact.is (.agg #[.bool neg', .slice ao' L'.length cap', .int .i64 e']), Fact.is (.int .i64 sd), Fact.dy nb mb xb, Fact.is (.int .i64 mode), Fact.is (.tuple #[.int .u64 X, .bool C]), Fact.is (.tuple #[.int .u64 X, .bool C]), Fact.is (.int .u64 X), Fact.is (.bool C), Fact.is (.int .u64 X), Fact.is (.bool C)] (by kernel_rfl) (by kernel_rfl) ⟨?o0, ?o1, ?o2, ?o3, ?o4, ?o5, ?o6, ?o7, ?o8, ?o9, ?o10, trivial⟩ ?after
                case o0 => (refine StepOK.plain rfl ?_; intro ρ w1 R hρ hb hp hR; have e3 : ρ (.tmp 3) = .pointer (some ⟨w.heap.size, 0, none⟩) := hρ.tmp 3 rfl; obtain ⟨⟨j0, j1, -, -, -⟩, j2, -⟩ := zA.below hb; have hcon := hρ.con; have hfn := hρ.fn; clear hρ hp; unfold OpRun; go_simp; exact hR _ _ (Below.refl _ _) rfl)
                case o1 => (refine StepOK.plain rfl ?_; intro ρ w1 R hρ hb hp hR; have e4 : ρ (.tmp 4) = .pointer (some ⟨w.heap.size + 1, 0, none⟩) := hρ.tmp 4 rfl; obtain ⟨⟨i0, i1, -, -, -⟩, i2, -⟩ := zB.below hb; have hcon := hρ.con; have hfn := hρ.fn; clear hρ hp; unfold OpRun; go_simp; exact hR _ _ (Below.refl _ _) rfl)
                case o2 => (refine StepOK.plain rfl ?_; intro ρ w1 R hρ hb hp hR; have e59 : ρ (.tmp 59) = _ := hp 1 59 rfl rfl; have hcon := hρ.con; have hfn := hρ.fn; clear hρ hp; unfold OpRun; go_simp; (refine (SG.out _).mono ?_; rintro e wn ⟨rfl, hbn⟩; exact ⟨_, rfl, hR _ _ hbn rfl⟩))
                case o3 => (refine StepOK.plain rfl ?_; intro ρ w1 R hρ hb hp hR; have e58 : ρ (.tmp 58) = _ := hp 0 58 rfl rfl; have e60 : ρ (.tmp 60) = _ := hp 2 60 rfl rfl; have hcon := hρ.con; have hfn := hρ.fn; clear hρ hp; unfold OpRun; go_simp; (refine (BS1.out _ (H2.out.below (below_trans yb2 hb))).mono ?_; rintro e wn ⟨a9, c9, rfl, hn9, hbn⟩; exact ⟨_, rfl, hR _ _ hbn ⟨a9, c9, rfl, hn9⟩⟩))
                case o4 => (refine StepOK.plain rfl ?_; intro ρ w1 R hρ hb hp hR; have e2 : ρ (.tmp 2) = .int .i64 mode := hρ.tmp 2 rfl; have hcon := hρ.con; have hfn := hρ.fn; clear hρ hp; unfold OpRun; go_simp; exact hR _ _ (Below.refl _ _) rfl)
                case o5 => (refine StepOK.plain rfl ?_; intro ρ w1 R hρ hb hp hR; have f61 := hp 3 61 rfl rfl; have e62 : ρ (.tmp 62) = _ := hp 4 62 rfl rfl; obtain ⟨a9, c9, e61, hn9⟩ := f61; have hcon := hρ.con; have hfn := hρ.fn; clear hρ hp; unfold OpRun; go_simp; (refine (NU.out a9 c9 _ hn9).mono ?_; rintro e wn ⟨rfl, hbn⟩; exact ⟨_, rfl, hR _ _ hbn rfl⟩))
                case o6 => (refine StepOK.plain rfl ?_; intro ρ w1 R hρ hb hp hR; have e63 : ρ (.tmp 63) = _ := hp 5 63 rfl rfl; have hcon := hρ.con; have hfn := hρ.fn; clear hρ hp; unfold OpRun; go_simp; exact hR _ _ (Below.refl _ _) rfl)
                case o7 => (refine StepOK.plain rfl ?_; intro ρ w1 R hρ hb hp hR; have e57 : ρ (.tmp 57) = _ := hp 6 57 rfl rfl; have hcon := hρ.con; have hfn := hρ.fn; clear hρ hp; unfold OpRun; go_simp; exact hR _ _ (Below.refl _ _) rfl)
                case o8 => (refine StepOK.plain rfl ?_; intro ρ w1 R hρ hb hp hR; have e57 : ρ (.tmp 57) = _ := hp 6 57 rfl rfl; have hcon := hρ.con; have hfn := hρ.fn; clear hρ hp; unfold OpRun; go_simp; exact hR _ _ (Below.refl _ _) rfl)
                case o9 => (refine StepOK.plain rfl ?_; intro ρ w1 R hρ hb hp hR; have e64 : ρ (.tmp 64) = _ := hp 7 64 rfl rfl; have hcon := hρ.con; have hfn := hρ.fn; clear hρ hp; unfold OpRun; go_simp; exact hR _ _ (Below.refl _ _) rfl)
                case o10 => (refine StepOK.plain rfl ?_; intro ρ w1 R hρ hb hp hR; have e65 : ρ (.tmp 65) = _ := hp 8 65 rfl rfl; have hcon := hρ.con; have hfn := hρ.fn; clear hρ hp; unfold OpRun; go_simp; exact hR _ _ (Below.refl _ _) rfl)
                case after =>
                  intro u wn hb hf
                  have e12 : u 12 = _ := hf 9 12 (by omega) rfl
                  have e13 : u 13 = _ := hf 10 13 (by omega) rfl
                  clear hf
                  simp only [putAll, Act.put, List.setIfInBounds_toArray, List.set_cons_zero, List.set_cons_succ, List.drop_succ_cons, List.drop_zero, List.drop_nil]
                  rw [e12, e13]
                  go_wp2_with fail
                  refine bodyPost_ret (by simp [results, Try.results56, go_sem]; try rfl) rfl ?_
                  exact ⟨ret3 HF.out.2.1.symm HF.out.2.2.symm HF.out.1.symm, below_trans yb2 hb⟩
    · have hb : (E' == 0) = false := beq_eq_false_iff_ne.2 h0'
      have te : partE neg L e neg' L' e' mode = E' := by rw [TE.out, if_pos h0, if_neg h0']
      obtain ⟨tx, tc⟩ := TX.out E' te h0'
      rw [te, tx, tc]
      subst h0
      clear hE hE' te tx tc hN hN'
      go_enter Try.func56, Try.ntmps56
      go_upto_region 5 with (go_at_call 103; (first
        | ((with_reducible refine (CK.out _ (H.out.below yb0)).mono ?_); rintro en w1 ⟨rfl, hb1⟩; have zB1 := zB0.below hb1; have yb1 := below_trans yb0 hb1; obtain ⟨i0, i1, i2⟩ := (⟨zB1.1.1, zB1.1.2.1, zB1.2.1⟩ : _ ∧ _ ∧ _))
        | ((with_reducible refine (CK'.out _ (H'.out.below yb1)).mono ?_); rintro en w2 ⟨rfl, hb2⟩)))
      go_wp2_with fail
      refine bodyPost_ret (by simp [results, Try.results56, go_sem]; try rfl) rfl ?_
      exact ⟨rfl, below_trans yb1 hb2⟩
  · have hb : (E == 0) = false := beq_eq_false_iff_ne.2 h0
    have te : partE neg L e neg' L' e' mode = E := by rw [TE.out, if_neg h0]
    obtain ⟨tx, tc⟩ := TX.out E te h0
    rw [te, tx, tc]
    clear hE hE' te tx tc hN hN'
    go_enter Try.func56, Try.ntmps56
    go_upto_region 2 with (go_at_call 103; (with_reducible refine (CK.out _ (H.out.below yb0)).mono ?_); rintro en w1 ⟨rfl, hb1⟩)
    go_wp2_with fail
    refine bodyPost_ret (by simp [results, Try.results56, go_sem]; try rfl) rfl ?_
    exact ⟨rfl, below_trans yb0 hb1⟩
end Go.Proofs.Ytdoiobdomngccaa
