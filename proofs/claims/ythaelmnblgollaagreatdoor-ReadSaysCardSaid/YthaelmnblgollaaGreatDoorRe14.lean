/- ReadSays: the walk of the law. -/
import Derived.Test.YthaelmnblgollaaGreatDoorRe9
import Derived.Test.YthaelmnblgollaaGreatDoorRe7
import Derived.Test.YthaelmnblgollaaGreatDoorRe13
import Derived.Test.YthaelmnblgollaaGreatDoorRe10

set_option linter.unusedVariables false
set_option linter.unusedSimpArgs false
namespace Go.Ulp
open Go.RowKit
def RetNm (w : World) (x : Int) (c : Bool) (k : Int) (e : Ending) (w' : World) : Prop := e = .returned (.tuple #[.int .u64 x, .bool c, .int .i64 k]) ∧ Below w.heap.size w w'
theorem RdOk.pos {A B M : Nat} {e : Int} (h : RdOk A B M e) : 0 < M := h.1
theorem drop_head (p : UInt8 → Bool) : ∀ (A : List UInt8) (b : UInt8) (r : List UInt8), A.dropWhile p = b :: r → p b = false
  | [], b, r, h => by cases h
  | a :: t, b, r, h => by
    rw [List.dropWhile_cons] at h
    split at h
    · exact drop_head p t b r h
    · rename_i h1
      injection h with h2 h3
      rw [← h2]; exact eq_false_of_ne_true h1
theorem drop_len (p : UInt8 → Bool) : ∀ A : List UInt8, (A.dropWhile p).length ≤ A.length
  | [] => by simp
  | a :: t => by
    rw [List.dropWhile_cons]
    split
    · have := drop_len p t; rw [List.length_cons]; omega
    · exact Nat.le_refl _
theorem drop_mem (p : UInt8 → Bool) : ∀ (A : List UInt8) (x : UInt8), x ∈ A.dropWhile p → x ∈ A
  | [], x, h => h
  | a :: t, x, h => by
    rw [List.dropWhile_cons] at h
    split at h
    · exact List.mem_cons_of_mem _ (drop_mem p t x h)
    · exact h
theorem rAll_dg (L : List UInt8) : AllDg (rAll L) := fun b hb => by
  unfold rAll at hb
  rcases List.mem_append.1 hb with h | h
  · exact all_tk _ b h
  · unfold rPart at h
    split at h
    · exact all_tk _ b h
    · cases h
theorem rPart_len (R : List UInt8) : (rPart R).length ≤ R.length := by
  unfold rPart; split
  · have := tk_len (R.drop 1); rw [List.length_drop] at this; omega
  · simp
theorem rAll_len (L : List UInt8) : (rAll L).length ≤ L.length := by
  unfold rAll
  have h1 := rPart_len (dpD (rdT L))
  have h2 := dp_len (rdT L)
  have h3 : (rdT L).length ≤ L.length := trimPrefix_len L [45]
  rw [List.length_append]; omega
theorem rD_dg (L : List UInt8) : AllDg (rD L) := fun b hb => rAll_dg L b (drop_mem _ _ b hb)
theorem rD_len (L : List UInt8) : (rD L).length ≤ L.length := Nat.le_trans (drop_len _ _) (rAll_len L)
theorem rD_ge (L : List UInt8) (h : rD L ≠ []) : 1 ≤ (rD L).length ∧ 10 ^ ((rD L).length - 1) ≤ dvl (rD L) := by
  cases hD : rD L with
  | nil => exact absurd hD h
  | cons b r =>
    have h1 := drop_head _ _ b r hD
    have h2 := rD_dg L
    rw [hD] at h2
    rw [List.length_cons]
    exact ⟨by omega, dvl_ge b r h2 (fun h9 => by rw [h9] at h1; exact absurd h1 (by decide))⟩
theorem rdE_zero {L : List UInt8} (h : rdE L = 0) : L.length ≤ 1000 := by
  unfold rdE at h
  split at h
  · omega
  · omega
theorem rdK_bd (L : List UInt8) (hl : rdE L = 0) : -2000000 ≤ rdK L ∧ rdK L ≤ 2000000 := by
  have h1 := pwV_bd (rPw L)
  have h2 := rPart_len (dpD (rdT L))
  have h3 := dp_len (rdT L)
  have h4 : (rdT L).length ≤ L.length := trimPrefix_len L [45]
  have h5 := rdE_zero hl
  unfold rdK; split <;> omega
theorem rdE_cases (L : List UInt8) : rdE L = 2 ∨ rdE L = 5 ∨ rdE L = 0 := by unfold rdE; split <;> (try split) <;> simp
end Go.Ulp
namespace Go.Proofs.YthaelmnblgollaaGreatDoor
open Go.RowKit Go.Ulp
set_option linter.unusedVariables false
set_option linter.unusedSimpArgs false
set_option maxHeartbeats 2000000
set_option maxRecDepth 100000
theorem valueP_any (neg : Bool) (L : List UInt8) (k : Int) (w : World) (hL : AllDg L) (hl : 1 ≤ L.length ∧ L.length ≤ 1000) (hZ : 10 ^ (L.length - 1) ≤ dvl L) (hk : -2000000 ≤ k ∧ k ≤ 2000000) (hT : Tab 0 w) :
    Calls Tryz.prog 108 #[.bool neg, .string (bsOf L), .int .i64 k] w (RetRV w neg (rdNum (dvl L) L.length k) (rdDen L.length k)) := by
  by_cases h1 : 400 < (L.length : Int) + k
  · exact value_high neg L k w hL hl hZ hk h1
  by_cases h2 : (L.length : Int) + k < -400
  · exact value_low neg L k w hL hl hZ hk h2
  by_cases h3 : k < 0
  · exact value_part neg L k w hL hl hZ (by omega) (by omega) h3 hT
  · exact value_whole neg L k w hL hl hZ (by omega) (by omega) hT
theorem number_bad (L : List UInt8) (mode : Int) (w : World) (hm : ¬ (0 ≤ mode ∧ mode ≤ 4)) :
    Calls Tryz.prog 38 #[.string (bsOf L), .int .i64 mode] w (RetNm w 0 false 1) := by
  have KN := hid (fun w => known_any mode w)
  rw [show knownB mode = false by unfold knownB; exact decide_eq_false hm] at KN
  go_enter Tryz.func38, Tryz.ntmps38
  go_wp2_with (go_at_call 106; (with_reducible refine (KN.out _).mono ?_); rintro en w1 ⟨rfl, rfl⟩)
  go_ret3
  exact ⟨rfl, Below.refl _ _⟩
theorem number_inf (mode : Int) (w : World) (hm : (0 ≤ mode ∧ mode ≤ 4)) :
    Calls Tryz.prog 38 #[.string (bsOf [105, 110, 102]), .int .i64 mode] w (RetNm w 9218868437227405312 false 0) := by
  have KN := hid (fun w => known_any mode w)
  rw [show knownB mode = true by unfold knownB; exact decide_eq_true hm] at KN
  have q1 : ((bsOf [105, 110, 102]).toList == [105, 110, 102]) = true := by rw [bs_toList]; rfl
  obtain ⟨Q, hQ⟩ : ∃ Q, Q = bsOf [105, 110, 102] := ⟨_, rfl⟩
  rw [← hQ] at q1 ⊢
  clear hQ
  go_enter Tryz.func38, Tryz.ntmps38
  go_wp2_with (go_at_call 106; (with_reducible refine (KN.out _).mono ?_); rintro en w1 ⟨rfl, rfl⟩)
  go_ret3
  exact ⟨rfl, Below.refl _ _⟩
theorem number_ninf (mode : Int) (w : World) (hm : (0 ≤ mode ∧ mode ≤ 4)) :
    Calls Tryz.prog 38 #[.string (bsOf [45, 105, 110, 102]), .int .i64 mode] w (RetNm w 18442240474082181120 false 0) := by
  have KN := hid (fun w => known_any mode w)
  rw [show knownB mode = true by unfold knownB; exact decide_eq_true hm] at KN
  have q1 : ((bsOf [45, 105, 110, 102]).toList == [105, 110, 102]) = false := by rw [bs_toList]; rfl
  have q2 : ((bsOf [45, 105, 110, 102]).toList == [45, 105, 110, 102]) = true := by rw [bs_toList]; rfl
  obtain ⟨Q, hQ⟩ : ∃ Q, Q = bsOf [45, 105, 110, 102] := ⟨_, rfl⟩
  rw [← hQ] at q1 q2 ⊢
  clear hQ
  go_enter Tryz.func38, Tryz.ntmps38
  go_wp2_with (go_at_call 106; (with_reducible refine (KN.out _).mono ?_); rintro en w1 ⟨rfl, rfl⟩)
  go_ret3
  exact ⟨rfl, Below.refl _ _⟩
theorem number_nan (mode : Int) (w : World) (hm : (0 ≤ mode ∧ mode ≤ 4)) :
    Calls Tryz.prog 38 #[.string (bsOf [110, 97, 110]), .int .i64 mode] w (RetNm w 9221120237041090560 false 0) := by
  have KN := hid (fun w => known_any mode w)
  rw [show knownB mode = true by unfold knownB; exact decide_eq_true hm] at KN
  have q1 : ((bsOf [110, 97, 110]).toList == [105, 110, 102]) = false := by rw [bs_toList]; rfl
  have q2 : ((bsOf [110, 97, 110]).toList == [45, 105, 110, 102]) = false := by rw [bs_toList]; rfl
  have q3 : ((bsOf [110, 97, 110]).toList == [110, 97, 110]) = true := by rw [bs_toList]; rfl
  obtain ⟨Q, hQ⟩ : ∃ Q, Q = bsOf [110, 97, 110] := ⟨_, rfl⟩
  rw [← hQ] at q1 q2 q3 ⊢
  clear hQ
  go_enter Tryz.func38, Tryz.ntmps38
  go_wp2_with (go_at_call 106; (with_reducible refine (KN.out _).mono ?_); rintro en w1 ⟨rfl, rfl⟩)
  go_ret3
  exact ⟨rfl, Below.refl _ _⟩
theorem number_err (L : List UInt8) (mode : Int) (w : World) (hm : (0 ≤ mode ∧ mode ≤ 4)) (hl : L.length ≤ 9223372036854775807) (n1 : L ≠ [105, 110, 102]) (n2 : L ≠ [45, 105, 110, 102]) (n3 : L ≠ [110, 97, 110]) (h : rdE L ≠ 0) :
    Calls Tryz.prog 38 #[.string (bsOf L), .int .i64 mode] w (RetNm w 0 false (rdE L)) := by
  have KN := hid (fun w => known_any mode w)
  rw [show knownB mode = true by unfold knownB; exact decide_eq_true hm] at KN
  have q1 : ((bsOf L).toList == [105, 110, 102]) = false := by rw [bs_toList]; exact beq_eq_false_iff_ne.2 n1
  have q2 : ((bsOf L).toList == [45, 105, 110, 102]) = false := by rw [bs_toList]; exact beq_eq_false_iff_ne.2 n2
  have q3 : ((bsOf L).toList == [110, 97, 110]) = false := by rw [bs_toList]; exact beq_eq_false_iff_ne.2 n3
  have PZ := hid (fun w => parseP_any L w hl)
  obtain ⟨Q, hQ⟩ : ∃ Q, Q = bsOf L := ⟨_, rfl⟩
  rw [← hQ] at q1 q2 q3 PZ ⊢
  generalize rdE L = er at *
  generalize rdN L = ne at *
  generalize rdD L = dd at *
  generalize rdK L = kk at *
  clear hQ n1 n2 n3
  go_enter Tryz.func38, Tryz.ntmps38
  go_wp2_with (first | (go_at_call 106; (with_reducible refine (KN.out _).mono ?_); rintro en w1 ⟨rfl, rfl⟩) | (go_at_call 37; (with_reducible refine (PZ.out _).mono ?_); rintro en w2 ⟨rfl, hb2⟩))
  go_ret3
  exact ⟨rfl, hb2⟩
theorem number_zero (L : List UInt8) (mode : Int) (w : World) (hm : (0 ≤ mode ∧ mode ≤ 4)) (hl : L.length ≤ 9223372036854775807) (n1 : L ≠ [105, 110, 102]) (n2 : L ≠ [45, 105, 110, 102]) (n3 : L ≠ [110, 97, 110]) (h : rdE L = 0) (h0 : rdD L = []) :
    Calls Tryz.prog 38 #[.string (bsOf L), .int .i64 mode] w (RetNm w (sgb (rdN L)) false 0) := by
  have KN := hid (fun w => known_any mode w)
  rw [show knownB mode = true by unfold knownB; exact decide_eq_true hm] at KN
  have q1 : ((bsOf L).toList == [105, 110, 102]) = false := by rw [bs_toList]; exact beq_eq_false_iff_ne.2 n1
  have q2 : ((bsOf L).toList == [45, 105, 110, 102]) = false := by rw [bs_toList]; exact beq_eq_false_iff_ne.2 n2
  have q3 : ((bsOf L).toList == [110, 97, 110]) = false := by rw [bs_toList]; exact beq_eq_false_iff_ne.2 n3
  have PZ := hid (fun w => parseP_any L w hl)
  rw [h] at PZ
  obtain ⟨Q, hQ⟩ : ∃ Q, Q = bsOf L := ⟨_, rfl⟩
  rw [← hQ] at q1 q2 q3 PZ ⊢
  have hde : (bsOf (rdD L)).toList.isEmpty = true := by rw [bs_toList, h0]; rfl
  generalize rdN L = ne at *
  generalize rdD L = dd at *
  generalize rdK L = kk at *
  clear hQ n1 n2 n3 h0 h
  cases ne
  · go_enter Tryz.func38, Tryz.ntmps38
    go_wp2_with (first | (go_at_call 106; (with_reducible refine (KN.out _).mono ?_); rintro en w1 ⟨rfl, rfl⟩) | (go_at_call 37; (with_reducible refine (PZ.out _).mono ?_); rintro en w2 ⟨rfl, hb2⟩))
    go_ret3
    exact ⟨rfl, hb2⟩
  · go_enter Tryz.func38, Tryz.ntmps38
    go_wp2_with (first | (go_at_call 106; (with_reducible refine (KN.out _).mono ?_); rintro en w1 ⟨rfl, rfl⟩) | (go_at_call 37; (with_reducible refine (PZ.out _).mono ?_); rintro en w2 ⟨rfl, hb2⟩))
    go_ret3
    exact ⟨rfl, hb2⟩
theorem number_val (L : List UInt8) (mode : Int) (w : World) (hm : (0 ≤ mode ∧ mode ≤ 4)) (hl : L.length ≤ 9223372036854775807) (n1 : L ≠ [105, 110, 102]) (n2 : L ≠ [45, 105, 110, 102]) (n3 : L ≠ [110, 97, 110]) (h : rdE L = 0) (h0 : rdD L ≠ []) (hT : Tab 0 w) :
    Calls Tryz.prog 38 #[.string (bsOf L), .int .i64 mode] w fun e w' => ∃ M x, RdOk (rdNum (dvl (rdD L)) (rdD L).length (rdK L)) (rdDen (rdD L).length (rdK L)) M x ∧ RetNm w (numX (rdN L) M x mode) (numC (rdN L) M x mode) 0 e w' := by
  have KN := hid (fun w => known_any mode w)
  rw [show knownB mode = true by unfold knownB; exact decide_eq_true hm] at KN
  have q1 : ((bsOf L).toList == [105, 110, 102]) = false := by rw [bs_toList]; exact beq_eq_false_iff_ne.2 n1
  have q2 : ((bsOf L).toList == [45, 105, 110, 102]) = false := by rw [bs_toList]; exact beq_eq_false_iff_ne.2 n2
  have q3 : ((bsOf L).toList == [110, 97, 110]) = false := by rw [bs_toList]; exact beq_eq_false_iff_ne.2 n3
  have PZ := hid (fun w => parseP_any L w hl)
  have hD : rdD L = rD L := by unfold rdD; rw [if_pos h]
  have hk := rdK_bd L h
  have hlen := rD_len L
  have hl1 := rdE_zero h
  rw [hD] at h0
  have hge := rD_ge L h0
  rw [← hD] at hge hlen h0
  have VA := hid (fun w t => valueP_any (rdN L) (rdD L) (rdK L) w (by rw [hD]; exact rD_dg L) ⟨hge.1, by omega⟩ hge.2 hk t)
  have hde : (bsOf (rdD L)).toList.isEmpty = false := by rw [bs_toList]; exact List.isEmpty_eq_false_iff.2 h0
  have HT := hid hT
  rw [h] at PZ
  generalize rdNum (dvl (rdD L)) (rdD L).length (rdK L) = A at *
  generalize rdDen (rdD L).length (rdK L) = B at *
  obtain ⟨Q, hQ⟩ : ∃ Q, Q = bsOf L := ⟨_, rfl⟩
  rw [← hQ] at q1 q2 q3 PZ ⊢
  generalize rdN L = ne at *
  generalize rdD L = dd at *
  generalize rdK L = kk at *
  have NU := hid (fun (m : Nat) (a : Option Addr) (c : Nat) (x : Int) w h0 h1 h2 h3 => number_any ne a c m x mode w h0 h1 h2 h3)
  clear hQ n1 n2 n3 h0 h hD hk hlen hl1 hge hT
  go_enter Tryz.func38, Tryz.ntmps38
  go_wp2_with (first
    | (first | (go_at_call 106; (with_reducible refine (KN.out _).mono ?_); rintro en w1 ⟨rfl, rfl⟩) | (go_at_call 37; (with_reducible refine (PZ.out _).mono ?_); rintro en w2 ⟨rfl, hb2⟩))
    | (go_at_call 108; (with_reducible refine (VA.out _ (HT.out.below hb2)).mono ?_); rintro en w3 ⟨M, x, ⟨a3, c3, rfl, hN3, hb3⟩, hok, hML, hx0, hx1⟩; have HO := hid hok; clear hok)
    | (go_at_call 107; (with_reducible refine (NU.out M a3 c3 x _ hN3 hML ⟨hx0, hx1⟩ (fun h9 => absurd h9 (by have := HO.out.pos; omega))).mono ?_); rintro en w4 ⟨rfl, hb4⟩))
  go_ret3
  exact ⟨M, x, HO.out, rfl, below_trans (below_trans hb2 hb3) hb4⟩
end Go.Proofs.YthaelmnblgollaaGreatDoor
set_option linter.unusedVariables false
set_option linter.unusedSimpArgs false
namespace Go.Proofs.YthaelmnblgollaaGreatDoor
open Go.RowKit Go.Ulp
set_option linter.unusedVariables false
set_option linter.unusedSimpArgs false
set_option maxHeartbeats 2000000
set_option maxRecDepth 100000
theorem readBits_none (neg : Bool) (k mode : Int) (w : World) :
    Calls Tryz.prog 44 #[.bool neg, .string (bsOf []), .int .i64 k, .int .i64 mode] w fun e w' => e = .returned (.tuple #[.int .u64 (sgb neg), .bool false]) ∧ w = w' := by
  have SG := hid (show ∀ w, Calls Tryz.prog 42 #[.int .u64 0, .bool neg] w fun e w' => e = .returned (.int .u64 (sgb neg)) ∧ w = w' from fun w => by
    have h := rSigned_any 0 (by omega) (by omega) neg w; rwa [Int.zero_add] at h)
  have hne : ((bsOf []).toList == []) = true := by rw [bs_toList]; rfl
  generalize bsOf [] = Q at *
  go_enter Tryz.func44, Tryz.ntmps44
  go_wp2_with (go_at_call 42; (with_reducible refine (SG.out _).mono ?_); rintro en w1 ⟨rfl, rfl⟩)
  go_ret2
  exact ⟨rfl, rfl⟩
theorem says_bad (L : List UInt8) (mode : Int) (w : World) (hl : L.length ≤ 9223372036854775807) (hm : ¬ (0 ≤ mode ∧ mode ≤ 4)) :
    Calls Tryz.prog 5 #[.string (bsOf L), .int .i64 mode] w fun e w' => e = .returned (.bool true) ∧ Below w.heap.size w w' := by
  have PZ := hid (fun w => parseP_any L w hl)
  have RT := hid (fun w => readText_any L w hl)
  have BT := hid (fun w => between_any mode 0 4 w)
  have NB := hid (fun w => number_bad L mode w hm)
  rw [show decide (0 ≤ mode ∧ mode ≤ 4) = false from decide_eq_false hm] at BT
  obtain ⟨Q, hQ⟩ : ∃ Q, Q = bsOf L := ⟨_, rfl⟩
  rw [← hQ] at PZ RT NB ⊢
  generalize rdN L = r1 at *
  generalize rdD L = r2 at *
  generalize rdK L = r3 at *
  generalize rdE L = r4 at *
  clear hQ hm
  go_enter Tryz.func5, Tryz.ntmps5
  go_wp2_with (first | (go_at_call 37; (with_reducible refine (PZ.out _).mono ?_); rintro en w1 ⟨rfl, hb1⟩) | (go_at_call 38; (with_reducible refine (NB.out _).mono ?_); rintro en w2 ⟨rfl, hb2⟩) | (go_at_call 39; (with_reducible refine (RT.out _).mono ?_); rintro en w3 ⟨rfl, hb3⟩; have yb3 := below_trans (below_trans hb1 hb2) hb3) | (go_at_call 40; (with_reducible refine (BT.out _).mono ?_); rintro en w4 ⟨rfl, rfl⟩))
  (go_ret; exact ⟨rfl, by first | exact yb3 | exact below_trans yb3 hb5⟩)
theorem says_text (L : List UInt8) (X : Int) (q1 q2 q3 : Bool) (mode : Int) (w : World) (hl : L.length ≤ 9223372036854775807) (hm : 0 ≤ mode ∧ mode ≤ 4) (h1 : ((bsOf L).toList == [105, 110, 102]) = q1) (h2 : ((bsOf L).toList == [45, 105, 110, 102]) = q2) (h3 : ((bsOf L).toList == [110, 97, 110]) = q3)
    (hX : (q1 = true ∧ X = 9218868437227405312) ∨ (q1 = false ∧ q2 = true ∧ X = 18442240474082181120) ∨ (q1 = false ∧ q2 = false ∧ q3 = true ∧ X = 9221120237041090560))
    (NB0 : ∀ w, Calls Tryz.prog 38 #[.string (bsOf L), .int .i64 mode] w (RetNm w X false 0)) :
    Calls Tryz.prog 5 #[.string (bsOf L), .int .i64 mode] w fun e w' => e = .returned (.bool true) ∧ Below w.heap.size w w' := by
  have PZ := hid (fun w => parseP_any L w hl)
  have RT := hid (fun w => readText_any L w hl)
  have BT := hid (fun w => between_any mode 0 4 w)
  have NB := hid NB0
  rw [show decide (0 ≤ mode ∧ mode ≤ 4) = true from decide_eq_true hm] at BT
  obtain ⟨Q, hQ⟩ : ∃ Q, Q = bsOf L := ⟨_, rfl⟩
  rw [← hQ] at PZ RT NB ⊢
  rw [← hQ] at h1 h2 h3
  have SG := hid (show ∀ w, Calls Tryz.prog 42 #[.int .u64 9218868437227405312, .bool true] w fun e w' => e = .returned (.int .u64 18442240474082181120) ∧ w = w' from fun w => rSigned_any 9218868437227405312 (by omega) (by omega) true w)
  have IB := hid (fun w => rInfBits_any w)
  have QN := hid (fun w => rQuiet_any w)
  generalize rdN L = r1 at *
  generalize rdD L = r2 at *
  generalize rdK L = r3 at *
  generalize rdE L = r4 at *
  clear hQ hm NB0
  go_enter Tryz.func5, Tryz.ntmps5
  rcases hX with ⟨rfl, rfl⟩ | ⟨rfl, rfl, rfl⟩ | ⟨rfl, rfl, rfl, rfl⟩
  all_goals
    go_wp2_with (first | (go_at_call 37; (with_reducible refine (PZ.out _).mono ?_); rintro en w1 ⟨rfl, hb1⟩) | (go_at_call 38; (with_reducible refine (NB.out _).mono ?_); rintro en w2 ⟨rfl, hb2⟩) | (go_at_call 39; (with_reducible refine (RT.out _).mono ?_); rintro en w3 ⟨rfl, hb3⟩; have yb3 := below_trans (below_trans hb1 hb2) hb3) | (go_at_call 40; (with_reducible refine (BT.out _).mono ?_); rintro en w4 ⟨rfl, rfl⟩) | (go_at_call 41; (with_reducible refine (IB.out _).mono ?_); rintro en w4 ⟨rfl, rfl⟩) | (go_at_call 43; (with_reducible refine (QN.out _).mono ?_); rintro en w4 ⟨rfl, rfl⟩) | (go_at_call 42; (with_reducible refine (SG.out _).mono ?_); rintro en w4 ⟨rfl, rfl⟩))
    (go_ret; exact ⟨rfl, by first | exact yb3 | exact below_trans yb3 hb5⟩)
theorem says_err (L : List UInt8) (mode : Int) (w : World) (hl : L.length ≤ 9223372036854775807) (hm : 0 ≤ mode ∧ mode ≤ 4) (n1 : L ≠ [105, 110, 102]) (n2 : L ≠ [45, 105, 110, 102]) (n3 : L ≠ [110, 97, 110]) (h : rdE L ≠ 0) :
    Calls Tryz.prog 5 #[.string (bsOf L), .int .i64 mode] w fun e w' => e = .returned (.bool true) ∧ Below w.heap.size w w' := by
  have PZ := hid (fun w => parseP_any L w hl)
  have RT := hid (fun w => readText_any L w hl)
  have BT := hid (fun w => between_any mode 0 4 w)
  have NB := hid (fun w => number_err L mode w hm hl n1 n2 n3 h)
  rw [show decide (0 ≤ mode ∧ mode ≤ 4) = true from decide_eq_true hm] at BT
  obtain ⟨Q, hQ⟩ : ∃ Q, Q = bsOf L := ⟨_, rfl⟩
  rw [← hQ] at PZ RT NB ⊢
  have q1 : (Q.toList == [105, 110, 102]) = false := by rw [hQ, bs_toList]; exact beq_eq_false_iff_ne.2 n1
  have q2 : (Q.toList == [45, 105, 110, 102]) = false := by rw [hQ, bs_toList]; exact beq_eq_false_iff_ne.2 n2
  have q3 : (Q.toList == [110, 97, 110]) = false := by rw [hQ, bs_toList]; exact beq_eq_false_iff_ne.2 n3
  have q4 : (rdE L == 0) = false := beq_eq_false_iff_ne.2 h
  generalize rdN L = r1 at *
  generalize rdD L = r2 at *
  generalize rdK L = r3 at *
  generalize rdE L = r4 at *
  clear hQ hm n1 n2 n3 h
  go_enter Tryz.func5, Tryz.ntmps5
  go_wp2_with (first | (go_at_call 37; (with_reducible refine (PZ.out _).mono ?_); rintro en w1 ⟨rfl, hb1⟩) | (go_at_call 38; (with_reducible refine (NB.out _).mono ?_); rintro en w2 ⟨rfl, hb2⟩) | (go_at_call 39; (with_reducible refine (RT.out _).mono ?_); rintro en w3 ⟨rfl, hb3⟩; have yb3 := below_trans (below_trans hb1 hb2) hb3) | (go_at_call 40; (with_reducible refine (BT.out _).mono ?_); rintro en w4 ⟨rfl, rfl⟩))
  (go_ret; exact ⟨rfl, by first | exact yb3 | exact below_trans yb3 hb5⟩)
theorem says_zero (L : List UInt8) (mode : Int) (w : World) (hl : L.length ≤ 9223372036854775807) (hm : 0 ≤ mode ∧ mode ≤ 4) (n1 : L ≠ [105, 110, 102]) (n2 : L ≠ [45, 105, 110, 102]) (n3 : L ≠ [110, 97, 110]) (h : rdE L = 0) (h0 : rdD L = []) :
    Calls Tryz.prog 5 #[.string (bsOf L), .int .i64 mode] w fun e w' => e = .returned (.bool true) ∧ Below w.heap.size w w' := by
  have PZ := hid (fun w => parseP_any L w hl)
  have RT := hid (fun w => readText_any L w hl)
  have BT := hid (fun w => between_any mode 0 4 w)
  have NB := hid (fun w => number_zero L mode w hm hl n1 n2 n3 h h0)
  have RB := hid (fun w => readBits_none (rdN L) (rdK L) mode w)
  rw [show decide (0 ≤ mode ∧ mode ≤ 4) = true from decide_eq_true hm] at BT
  obtain ⟨Q, hQ⟩ : ∃ Q, Q = bsOf L := ⟨_, rfl⟩
  rw [← hQ] at PZ RT NB ⊢
  have q1 : (Q.toList == [105, 110, 102]) = false := by rw [hQ, bs_toList]; exact beq_eq_false_iff_ne.2 n1
  have q2 : (Q.toList == [45, 105, 110, 102]) = false := by rw [hQ, bs_toList]; exact beq_eq_false_iff_ne.2 n2
  have q3 : (Q.toList == [110, 97, 110]) = false := by rw [hQ, bs_toList]; exact beq_eq_false_iff_ne.2 n3
  rw [h0, h] at PZ RT
  generalize rdN L = r1 at *
  generalize rdK L = r3 at *
  generalize sgb r1 = sx at *
  clear hQ hm n1 n2 n3 h h0
  go_enter Tryz.func5, Tryz.ntmps5
  go_wp2_with (first | (go_at_call 37; (with_reducible refine (PZ.out _).mono ?_); rintro en w1 ⟨rfl, hb1⟩) | (go_at_call 38; (with_reducible refine (NB.out _).mono ?_); rintro en w2 ⟨rfl, hb2⟩) | (go_at_call 39; (with_reducible refine (RT.out _).mono ?_); rintro en w3 ⟨rfl, hb3⟩; have yb3 := below_trans (below_trans hb1 hb2) hb3) | (go_at_call 40; (with_reducible refine (BT.out _).mono ?_); rintro en w4 ⟨rfl, rfl⟩) | (go_at_call 44; (with_reducible refine (RB.out _).mono ?_); rintro en w5 ⟨rfl, rfl⟩))
  (go_ret; exact ⟨rfl, by first | exact yb3 | exact below_trans yb3 hb5⟩)
theorem says_val (L : List UInt8) (mode : Int) (w : World) (hl : L.length ≤ 9223372036854775807) (hm : 0 ≤ mode ∧ mode ≤ 4) (n1 : L ≠ [105, 110, 102]) (n2 : L ≠ [45, 105, 110, 102]) (n3 : L ≠ [110, 97, 110]) (h : rdE L = 0) (h0 : rdD L ≠ []) (hT : Tab 0 w) :
    Calls Tryz.prog 5 #[.string (bsOf L), .int .i64 mode] w fun e w' => e = .returned (.bool true) ∧ Below w.heap.size w w' := by
  have PZ := hid (fun w => parseP_any L w hl)
  have RT := hid (fun w => readText_any L w hl)
  have BT := hid (fun w => between_any mode 0 4 w)
  have NB := hid (fun w t => number_val L mode w hm hl n1 n2 n3 h h0 t)
  have HD : rdD L = rD L := by unfold rdD; rw [if_pos h]
  have hk := rdK_bd L h
  have g1 := rD_dg L
  have g2 := rD_len L
  have g3 := rdE_zero h
  have g4 := rD_ge L (by rw [← HD]; exact h0)
  rw [← HD] at g1 g2 g4
  have RB := hid (fun w => readBits_any (rdN L) (rdD L) (rdK L) mode w g1 g4.1 (by omega) (by omega) hm.1 hm.2)
  have KEY := hid (show ∀ (M : Nat) (x l : Int), RdOk (rdNum (dvl (rdD L)) (rdD L).length (rdK L)) (rdDen (rdD L).length (rdK L)) M x → 0 ≤ l → l < 9218868437227405312 → rdC 1074 (rdNum (dvl (rdD L)) (rdD L).length (rdK L)) (rdDen (rdD L).length (rdK L)) l ≤ 0 → (l + 1 = 9218868437227405312 ∨ 0 < rdC 1074 (rdNum (dvl (rdD L)) (rdD L).length (rdK L)) (rdDen (rdD L).length (rdK L)) (l + 1)) →
      (rdA 1074 (rdNum (dvl (rdD L)) (rdD L).length (rdK L)) (rdDen (rdD L).length (rdK L)) (if rdN L = true then swM mode else mode) l).1 + sgb (rdN L) = numX (rdN L) M x mode ∧
      (rdA 1074 (rdNum (dvl (rdD L)) (rdD L).length (rdK L)) (rdDen (rdD L).length (rdK L)) (if rdN L = true then swM mode else mode) l).2 = numC (rdN L) M x mode from fun M x l ok l0 l1 l2 l3 => by
    obtain ⟨n, rfl⟩ := Int.eq_ofNat_of_zero_le l0
    obtain ⟨hM, sft, hs, SC⟩ := ok
    obtain ⟨r1, r2⟩ := read_sg (rdN L) M x mode 1074 _ _ sft n hm.1 hm.2 hM hs SC l1 l2 l3
    exact ⟨r1.symm, r2.symm⟩)
  rw [show decide (0 ≤ mode ∧ mode ≤ 4) = true from decide_eq_true hm] at BT
  obtain ⟨Q, hQ⟩ : ∃ Q, Q = bsOf L := ⟨_, rfl⟩
  rw [← hQ] at PZ RT NB ⊢
  have q1 : (Q.toList == [105, 110, 102]) = false := by rw [hQ, bs_toList]; exact beq_eq_false_iff_ne.2 n1
  have q2 : (Q.toList == [45, 105, 110, 102]) = false := by rw [hQ, bs_toList]; exact beq_eq_false_iff_ne.2 n2
  have q3 : (Q.toList == [110, 97, 110]) = false := by rw [hQ, bs_toList]; exact beq_eq_false_iff_ne.2 n3
  rw [h] at PZ RT
  have HT := hid hT
  generalize rdK L = r3 at *
  generalize rdNum (dvl (rdD L)) (rdD L).length r3 = A at *
  generalize rdDen (rdD L).length r3 = B at *
  generalize rdN L = ng at *
  generalize rdD L = D at *
  clear hQ hm n1 n2 n3 h h0 HD hk g1 g2 g3 g4 hT
  go_enter Tryz.func5, Tryz.ntmps5
  go_upto_region 4 with (first | (go_at_call 37; (with_reducible refine (PZ.out _).mono ?_); rintro en w1 ⟨rfl, hb1⟩) | (go_at_call 39; (with_reducible refine (RT.out _).mono ?_); rintro en w3 ⟨rfl, hb3⟩; have yb3 := below_trans (below_trans hb1 hb2) hb3) | (go_at_call 38; (with_reducible refine (NB.out _ (HT.out.below hb1)).mono ?_); rintro en w2 ⟨M, x, ok, rfl, hb2⟩))
  obtain ⟨X, hX⟩ : ∃ X, X = numX ng M x mode := ⟨_, rfl⟩
  obtain ⟨C, hC⟩ : ∃ X, X = numC ng M x mode := ⟨_, rfl⟩
  have KK := hid (fun l l0 l1 l2 l3 => by
    have h9 := KEY.out M x l ok l0 l1 l2 l3
    rwa [← hX, ← hC] at h9)
  rw [← hX, ← hC]
  clear KEY NB PZ RT hX hC HT
  go_wp2_with (first | (go_at_call 40; (with_reducible refine (BT.out _).mono ?_); rintro en w4 ⟨rfl, rfl⟩) | (go_at_call 44; (with_reducible refine (RB.out _).mono ?_); rintro en w5 ⟨l, l0, l1, l2, l3, rfl, hb5⟩; obtain ⟨k1, k2⟩ := KK.out l l0 l1 l2 l3; rw [k1, k2]; clear k1 k2 l2 l3))
  (go_ret; exact ⟨rfl, by first | exact yb3 | exact below_trans yb3 hb5⟩)
theorem readSays_walk (s : ByteArray) (mode : Int) (hs : s.size ≤ 9223372036854775807) (hm : -9223372036854775808 ≤ mode ∧ mode ≤ 9223372036854775807) (w : World) (hT : Tab 0 w) (_hT : Tab10 w) :
    Calls Tryz.prog 5 #[.string s, .int .i64 mode] w fun e w' => e = .returned (.bool true) ∧ Below w.heap.size w w' := by
  obtain ⟨L, rfl⟩ : ∃ L, s = bsOf L := ⟨s.data.toList, rfl⟩
  rw [bs_size] at hs
  by_cases c0 : 0 ≤ mode ∧ mode ≤ 4
  · by_cases c1 : L = [105, 110, 102]
    · subst c1
      exact says_text _ _ _ _ _ mode w hs c0 rfl rfl rfl (.inl ⟨by rw [bs_toList]; rfl, rfl⟩) (fun w => number_inf mode w c0)
    by_cases c2 : L = [45, 105, 110, 102]
    · subst c2
      exact says_text _ _ _ _ _ mode w hs c0 rfl rfl rfl (.inr (.inl ⟨by rw [bs_toList]; rfl, by rw [bs_toList]; rfl, rfl⟩)) (fun w => number_ninf mode w c0)
    by_cases c3 : L = [110, 97, 110]
    · subst c3
      exact says_text _ _ _ _ _ mode w hs c0 rfl rfl rfl (.inr (.inr ⟨by rw [bs_toList]; rfl, by rw [bs_toList]; rfl, by rw [bs_toList]; rfl, rfl⟩)) (fun w => number_nan mode w c0)
    by_cases c4 : rdE L = 0
    · by_cases c5 : rdD L = []
      · exact says_zero L mode w hs c0 c1 c2 c3 c4 c5
      · exact says_val L mode w hs c0 c1 c2 c3 c4 c5 hT
    · exact says_err L mode w hs c0 c1 c2 c3 c4
  · exact says_bad L mode w hs c0
end Go.Proofs.YthaelmnblgollaaGreatDoor
