/- HexReads: what the proof leans on, part 1 (Hr5 Hr4 Hr6). -/
import Derived.Test.YthaelmnblgollaaGreatDoorKShortSays21
import Derived.Test.YthaelmnblgollaaGreatDoorKShortSays28
set_option linter.unusedVariables false
set_option linter.unusedSimpArgs false
namespace Go.Ulp
open Go.RowKit
/-- what a digit in sixteens is worth -/
def hxd (b : UInt8) : Nat := if b.toNat ≤ 57 then b.toNat - 48 else b.toNat - 87
def hvA (acc : Nat) (L : List UInt8) : Nat := L.foldl (fun a b => a * 16 + hxd b) acc
def hvl (L : List UInt8) : Nat := hvA 0 L
theorem hvA_cons (acc : Nat) (b : UInt8) (r : List UInt8) : hvA acc (b :: r) = hvA (acc * 16 + hxd b) r := by unfold hvA; rw [List.foldl_cons]
theorem hvA_app (acc : Nat) (A B : List UInt8) : hvA acc (A ++ B) = hvA (hvA acc A) B := by unfold hvA; rw [List.foldl_append]
theorem hvl_cons (b : UInt8) (r : List UInt8) : hvl (b :: r) = hvA (hxd b) r := by unfold hvl; rw [hvA_cons, Nat.zero_mul, Nat.zero_add]
theorem hvA_acc (L : List UInt8) : ∀ (acc : Nat), hvA acc L = acc * 16 ^ L.length + hvl L := by
  induction L with
  | nil => intro acc; rw [List.length_nil, Nat.pow_zero, Nat.mul_one]; rfl
  | cons b r ih =>
    intro acc
    rw [hvA_cons, ih, hvl_cons, ih, List.length_cons, Nat.pow_succ, Nat.add_mul, Nat.mul_assoc, Nat.mul_comm 16, Nat.add_assoc]
theorem hx_bd {b : UInt8} (h : isHx b = true) : (48 ≤ b.toNat ∧ b.toNat ≤ 57 ∧ hxd b = b.toNat - 48) ∨ (97 ≤ b.toNat ∧ b.toNat ≤ 102 ∧ hxd b = b.toNat - 87) := by
  rcases of_decide_eq_true h with h | h
  · exact .inl ⟨h.1, h.2, by unfold hxd; rw [if_pos h.2]⟩
  · exact .inr ⟨h.1, h.2, by unfold hxd; rw [if_neg (by omega)]⟩
theorem hxd_lt {b : UInt8} (h : isHx b = true) : hxd b < 16 := by
  rcases hx_bd h with h | h <;> omega
theorem AllHx.tail {b : UInt8} {r : List UInt8} (h : AllHx (b :: r)) : AllHx r := fun x hx => h x (List.mem_cons_of_mem _ hx)
theorem AllHx.take {L : List UInt8} (h : AllHx L) (k : Nat) : AllHx (L.take k) := fun x hx => h x (List.mem_of_mem_take hx)
theorem AllHx.drop {L : List UInt8} (h : AllHx L) (k : Nat) : AllHx (L.drop k) := fun x hx => h x (List.mem_of_mem_drop hx)
theorem hvl_lt : ∀ (L : List UInt8), AllHx L → hvl L < 16 ^ L.length
  | [], _ => by show 0 < 1; omega
  | b :: r, h => by
    have h1 := hvl_lt r h.tail
    have h2 := hxd_lt (h b (List.mem_cons_self ..))
    rw [hvl_cons, hvA_acc, List.length_cons, Nat.pow_succ]
    have h3 : hxd b * 16 ^ r.length ≤ 15 * 16 ^ r.length := Nat.mul_le_mul_right _ (by omega)
    omega
theorem hvA_split (x k : Nat) (Q : List UInt8) : hvA (x * 16 ^ (Q.take k).length + hvl (Q.take k)) (Q.drop k) = hvA x Q := by
  rw [← hvA_acc, ← hvA_app, List.take_append_drop]
theorem low_hx (b : UInt8) (h0 : 97 ≤ b.toNat) (h1 : b.toNat ≤ 102) : bits .or .u8 (b.toNat : Int) 32 = (b.toNat : Int) := by
  have : ∀ n : Fin 256, 97 ≤ n.1 → n.1 ≤ 102 → bits .or .u8 ((n.1 : Nat) : Int) 32 = ((n.1 : Nat) : Int) := by decide +kernel
  exact this ⟨b.toNat, b.toNat_lt⟩ h0 h1
end Go.Ulp
namespace Go.Proofs.YthaelmnblgollaaGreatDoor
open Go.RowKit Go.Ulp
set_option linter.unusedVariables false
set_option linter.unusedSimpArgs false
set_option maxHeartbeats 4000000
set_option maxRecDepth 100000
theorem lower_any (c : Int) (w : World) :
    Calls Tryz.prog 279 #[.int .u8 c] w fun e w' => e = .returned (.int .u8 (bits .or .u8 c 32)) ∧ w' = w := by
  go_enter Tryz.func279, Tryz.ntmps279
  go_wp2_with fail
  go_ret
  exact ⟨rfl, rfl⟩
theorem puIn_any (L : List UInt8) (w : World) (hL : AllHx L) (h1 : 1 ≤ L.length) (h8 : L.length ≤ 8) :
    Calls Tryz.prog 245 #[.string (bsOf L), .int .i64 16, .int .i64 64] w fun e w' => e = .returned (.tuple #[.int .u64 ((hvl L : Nat) : Int), .nilIface]) ∧ Below w.heap.size w w' := by
  have hne : (bsOf L).toList.isEmpty = false := by rw [bs_toList]; exact List.isEmpty_eq_false_iff.2 (List.length_pos_iff.1 h1)
  have hcv := Lib.run_convert_string_bytes (P := Tryz.prog) w 9 141 5 (bsOf L) (u := .string) Tryz.underlying9 Tryz.underlying141 Tryz.underlying5
  have hB : ∀ j b r, L.drop j = b :: r → (Lib.bytesWorld w 5 (bsOf L)).cell? ⟨w.heap.size, j, none⟩ = some (.int .u8 (b.toNat : Int)) := fun j b r h => by
    obtain ⟨q1, -, q3⟩ := drop_cons h
    have h9 := Lib.bytesWorld_cell w 5 (bsOf L) j (by rw [bs_size]; exact q1)
    rw [bs_list, q3] at h9
    exact h9
  have yb := Lib.bytesWorld_below w 5 (bsOf L)
  have hsz := bs_size L
  obtain ⟨n, hn⟩ : ∃ n, n = L.length := ⟨_, rfl⟩
  rw [← hn] at hsz
  rw [hsz] at hcv
  obtain ⟨W1, hW1⟩ : ∃ W1, W1 = Lib.bytesWorld w 5 (bsOf L) := ⟨_, rfl⟩
  rw [← hW1] at hcv hB yb
  generalize grownCap w n 0 5 = gc at *
  obtain ⟨V, hV⟩ : ∃ V, V = hvl L := ⟨_, rfl⟩
  rw [← hV]
  have HV := hid hV
  have HNL := hid hn
  have hn1 : 1 ≤ n := by omega
  have hn8 : n ≤ 8 := by omega
  obtain ⟨S, hS⟩ : ∃ S, S = bsOf L := ⟨_, rfl⟩
  rw [← hS] at hne hcv hsz ⊢
  clear hW1 hV hn h1 h8 hS
  have hmv : IntKind.u64.wrap (IntKind.u64.wrap 18446744073709551616 - 1) = 18446744073709551615 := by
    rw [IntKind.wrap_u64, IntKind.wrap_u64]
    decide
  go_enter Tryz.func245, Tryz.ntmps245
  go_wp2_with fail
  go_loopw [12, 13, 101] (fun s12 s13 s101 wr => ∃ (j : Nat) (a : Int), s12 = .bool false ∧ s13 = .int .u64 a ∧ s101 = .int .i64 (j : Int) ∧ j ≤ n ∧ Hid (∃ acc : Nat, a = (acc : Int) ∧ hvA acc (L.drop j) = V ∧ acc < 16 ^ j) ∧ wr = W1) (fun _ _ s101 _ => n - (intOf s101).toNat)
  case atStart => exact ⟨0, 0, rfl, rfl, rfl, by omega, hid ⟨0, rfl, HV.out.symm, by show 0 < 1; omega⟩, rfl⟩
  case round =>
    obtain ⟨j, a, rfl, rfl, rfl, hj, hh, rfl⟩ := hrel
    obtain ⟨acc, ha, hacc, hab⟩ := hh.out
    clear hh
    have hNL := HNL.out
    cases hd : L.drop j with
    | nil =>
      have g1 : ¬ (j : Int) < (n : Int) := by
        have := congrArg List.length hd
        rw [List.length_drop, List.length_nil] at this; omega
      rw [hd] at hacc
      have e : acc = V := hacc
      subst e
      subst ha
      have HY := hid yb
      clear hacc hd hB hNL hab hmv yb
      go_wp2_with fail
      go_ret2
      exact ⟨rfl, HY.out⟩
    | cons b r =>
      obtain ⟨q1, q2, -⟩ := drop_cons hd
      have hc := hB j b r hd
      have hx := hL b (List.mem_of_mem_drop (by rw [hd]; exact List.mem_cons_self ..))
      have hbd := hx_bd hx
      have hlow := low_hx b
      have hlt := hxd_lt hx
      rw [hd, hvA_cons] at hacc
      have g1 : (j : Int) < (n : Int) := by omega
      have hb8 : 16 ^ j ≤ 16 ^ 7 := Nat.pow_le_pow_right (by omega) (by omega)
      have hab2 : acc * 16 + hxd b < 16 ^ (j + 1) := by
        rw [Nat.pow_succ]
        have : (acc + 1) * 16 ≤ 16 ^ j * 16 := Nat.mul_le_mul_right _ hab
        omega
      obtain ⟨y, hy⟩ : ∃ y : Nat, y = acc * 16 + hxd b := ⟨_, rfl⟩
      rw [← hy] at hacc hab2
      have hHN : Hid (∃ q : Nat, (y : Int) = (q : Int) ∧ hvA q (L.drop (j + 1)) = V ∧ q < 16 ^ (j + 1)) := hid ⟨y, rfl, by rw [q2]; exact hacc, hab2⟩
      obtain ⟨d, hdd⟩ : ∃ d : Nat, d = hxd b := ⟨_, rfl⟩
      rw [← hdd] at hbd hlt hy
      obtain ⟨x, hxx⟩ : ∃ x : Int, x = (b.toNat : Int) := ⟨_, rfl⟩
      rw [← hxx] at hc hlow
      have a0 : 0 ≤ a := by omega
      have a1 : a < 268435456 := by
        have : (16 : Nat) ^ 7 = 268435456 := by decide
        omega
      have hym : a * 16 + (d : Int) = (y : Int) := by omega
      have wA : IntKind.u64.wrap (a * 16) = a * 16 := by rw [IntKind.wrap_u64]; omega
      have wD : IntKind.u64.wrap (a * 16 + (d : Int)) = a * 16 + (d : Int) := by rw [IntKind.wrap_u64]; omega
      have wI : IntKind.i64.wrap ((j : Int) + 1) = (j : Int) + 1 := IntWalk.i64_in _ (by omega)
      have hjn : j + 1 ≤ n := by omega
      have dcase : (48 ≤ x ∧ x ≤ 57 ∧ x - 48 = (d : Int)) ∨ (97 ≤ x ∧ x ≤ 102 ∧ x - 87 = (d : Int)) := by omega
      have hlow2 : 97 ≤ x → x ≤ 102 → bits .or .u8 x 32 = x := fun h0 h1 => hlow (by omega) (by omega)
      have d15 : (d : Int) < 16 := by omega
      have d00 : 0 ≤ (d : Int) := by omega
      have HYM := hid hym
      have HA3 := hid hHN
      clear hd hB hacc hy hxx q1 q2 hbd hNL hlow hlt hdd hab hab2 hb8 ha hHN hx hym
      obtain ⟨D, hD⟩ : ∃ D : Int, D = (d : Int) := ⟨_, rfl⟩
      rw [← hD] at wD dcase d15 d00 HYM
      clear hD
      rcases dcase with ⟨x0, x1, x2⟩ | ⟨x0, x1, x2⟩
      · have wB : IntKind.u8.wrap (x - 48) = D := by rw [IntKind.wrap_u8]; omega
        clear hlow2
        go_wp2_with fail
        go_roundw
        case rel => exact ⟨j + 1, a * 16 + D, rfl, by first | rfl | (congr 1; omega), by go_num, hjn, hid (by have := HA3.out.out; rw [HYM.out]; exact this), by first | rfl | trivial⟩
        case measure => simp [intOf]; omega
      · have LW := hid (show ∀ w, Calls Tryz.prog 279 #[.int .u8 x] w fun e w' => e = .returned (.int .u8 x) ∧ w' = w from fun w => by
          have h := lower_any x w
          rw [hlow2 x0 x1] at h; exact h)
        have wB : IntKind.u8.wrap (x - 97) = x - 97 := by rw [IntKind.wrap_u8]; omega
        have wB2 : IntKind.u8.wrap (x - 97 + 10) = D := by rw [IntKind.wrap_u8]; omega
        clear hlow2
        go_wp2_with (go_at_call 279; (with_reducible refine (LW.out _).mono ?_); rintro en w1 ⟨rfl, rfl⟩)
        go_roundw
        case rel => exact ⟨j + 1, a * 16 + D, rfl, by first | rfl | (congr 1; omega), by go_num, hjn, hid (by have := HA3.out.out; rw [HYM.out]; exact this), by first | rfl | trivial⟩
        case measure => simp [intOf]; omega
theorem pu16_any (L : List UInt8) (w : World) (hL : AllHx L) (h1 : 1 ≤ L.length) (h8 : L.length ≤ 8) :
    Calls Tryz.prog 191 #[.string (bsOf L), .int .i64 16, .int .i64 64] w fun e w' => e = .returned (.tuple #[.int .u64 ((hvl L : Nat) : Int), .nilIface]) ∧ Below w.heap.size w w' := by
  have PI := hid (fun w => puIn_any L w hL h1 h8)
  generalize hvl L = V at *
  generalize bsOf L = S at *
  go_enter Tryz.func191, Tryz.ntmps191
  go_wp2_with (go_at_call 245; (with_reducible refine (PI.out _).mono ?_); rintro en w1 ⟨rfl, hb1⟩)
  go_ret2
  exact ⟨rfl, hb1⟩
end Go.Proofs.YthaelmnblgollaaGreatDoor

set_option linter.unusedVariables false
set_option linter.unusedSimpArgs false
namespace Go.Ulp
open Go.RowKit
/-- what a text in sixteens tells: behind the sign and "0x" -/
def hrT (L : List UInt8) : List UInt8 := Lib.trimPrefix (rdT L) [48, 120]
def hrO (L : List UInt8) : Bool := Lib.hasPrefix (rdT L) [48, 120] && hxOk (hrT L)
def hrN (L : List UInt8) : Bool := Lib.hasPrefix L [45]
def hrD (L : List UInt8) : List UInt8 := tkH (hrT L) ++ hxPA (hrT L)
def hrP (L : List UInt8) : List UInt8 := tkD (hxR4 (hrT L))
def hrK (L : List UInt8) : Int := (if hxDn (hrT L) = true then -((dvl (hrP L) : Nat) : Int) else ((dvl (hrP L) : Nat) : Int)) - 4 * ((hxPA (hrT L)).length : Int)
theorem tkH_hx (L : List UInt8) : AllHx (tkH L) := tw_all isHx L
theorem hxPA_hx (T : List UInt8) : AllHx (hxPA T) := by
  unfold hxPA; split
  · exact tkH_hx _
  · intro b hb; cases hb
theorem hrD_hx (L : List UInt8) : AllHx (hrD L) := fun b hb => by
  rcases List.mem_append.1 hb with h | h
  · exact tkH_hx _ b h
  · exact hxPA_hx _ b h
theorem tkH_len (L : List UInt8) : (tkH L).length ≤ L.length := by have := dpH_len L; omega
theorem hxPA_len (T : List UInt8) : (tkH T).length + (hxPA T).length ≤ T.length := by
  have h1 := dpH_len T
  unfold hxPA; split
  · have := tkH_len ((dpH T).drop 1); rw [List.length_drop] at this; omega
  · rw [List.length_nil]; omega
theorem hrT_len (L : List UInt8) : (hrT L).length ≤ L.length := Nat.le_trans (trimPrefix_len _ _) (trimPrefix_len L [45])
theorem hrD_len (L : List UInt8) : (hrD L).length ≤ L.length := by
  unfold hrD; rw [List.length_append]
  exact Nat.le_trans (hxPA_len _) (hrT_len L)
theorem hrP_lt (L : List UInt8) (h : hrO L = true) : dvl (hrP L) < 100000 ∧ 1 ≤ (hrP L).length ∧ (hrP L).length ≤ 5 := by
  unfold hrO hxOk at h
  simp only [Bool.and_eq_true, Bool.not_eq_true', decide_eq_true_eq] at h
  obtain ⟨-, ⟨⟨⟨-, h3⟩, h4⟩, -⟩⟩ := h
  have h5 := dvl_lt (hrP L) (all_tk _)
  have h6 : 10 ^ (hrP L).length ≤ 10 ^ 5 := Nat.pow_le_pow_right (by omega) h4
  have h7 := List.isEmpty_eq_false_iff.1 h3
  have h8 : 0 < (hrP L).length := List.length_pos_iff.2 h7
  have h9 : (10 : Nat) ^ 5 = 100000 := by decide
  exact ⟨by omega, h8, h4⟩
theorem hrK_bd (L : List UInt8) (hl : L.length ≤ 1000) (h : hrO L = true) : -110000 ≤ hrK L ∧ hrK L ≤ 110000 := by
  obtain ⟨h1, -, -⟩ := hrP_lt L h
  have h2 := hxPA_len (hrT L)
  have h3 := hrT_len L
  unfold hrK; split <;> omega
theorem hvl_bl (L : List UInt8) (h : AllHx L) (hl : L.length ≤ 1000) : bl (hvl L) ≤ 4000 := by
  refine (bl_le _ _).2 (Nat.lt_of_lt_of_le (hvl_lt L h) ?_)
  obtain ⟨T, hT⟩ : ∃ T : Nat, T = 4000 := ⟨_, rfl⟩
  rw [← hT, show (16 : Nat) = 2 ^ 4 from rfl, ← Nat.pow_mul]
  exact Nat.pow_le_pow_right (by omega) (by omega)
end Go.Ulp
namespace Go.Proofs.YthaelmnblgollaaGreatDoor
open Go.RowKit Go.Ulp
set_option linter.unusedVariables false
set_option linter.unusedSimpArgs false
set_option maxHeartbeats 4000000
set_option maxRecDepth 100000
theorem cutP_any (L : List UInt8) (p : List UInt8) (w : World) : Calls Tryz.prog 102 #[.string (bsOf L), .string (bsOf p)] w fun e w' => e = .returned (.tuple #[.string (bsOf (Lib.trimPrefix L p)), .bool (Lib.hasPrefix L p)]) ∧ w = w' := by
  have h := Tryz.strings_CutPrefix (bsOf L) (bsOf p) w
  rw [bs_list, bs_list] at h
  refine h.mono ?_
  rintro e w1 ⟨rfl, rfl⟩
  exact ⟨rfl, rfl⟩
theorem hasP_any (L : List UInt8) (p : List UInt8) (w : World) : Calls Tryz.prog 110 #[.string (bsOf L), .string (bsOf p)] w fun e w' => e = .returned (.bool (Lib.hasPrefix L p)) ∧ w = w' := by
  have h := Tryz.strings_HasPrefix (bsOf L) (bsOf p) w
  rw [bs_list, bs_list] at h
  refine h.mono ?_
  rintro e w1 ⟨rfl, rfl⟩
  exact ⟨rfl, rfl⟩
/-- the sign of the power falls away -/
theorem hx_r4 (R3 : List UInt8) (dn pl : Bool) (h1 : Lib.hasPrefix R3 [45] = dn) (h2 : Lib.hasPrefix R3 [43] = pl) : (dn || pl) = true → 1 ≤ R3.length := fun h => by
  rcases Bool.or_eq_true _ _ |>.mp h with h3 | h3
  · rw [← h1] at h3; exact hp_len h3
  · rw [← h2] at h3; exact hp_len h3
theorem hparse_core (L T0 T W Y Y1 PA R2 R3 X4 PW RX A : List UInt8) (neg ok pt p dn pl sgn : Bool) (v0 : Bool) (v1 : List UInt8) (v2 : Int) (v3 : Bool) (w : World) (hl : L.length ≤ 1000)
    (eT0 : rdT L = T0) (en : Lib.hasPrefix L [45] = neg) (eT : Lib.trimPrefix T0 [48, 120] = T) (eok : Lib.hasPrefix T0 [48, 120] = ok) (eW : tkH T = W) (eY : dpH T = Y) (ept : Lib.hasPrefix Y [46] = pt) (eY1 : Lib.trimPrefix Y [46] = Y1)
    (ePA : hxPA T = PA) (eR2 : hxR2 T = R2) (ep : Lib.hasPrefix R2 [112] = p) (eR3 : Lib.trimPrefix R2 [112] = R3) (edn : Lib.hasPrefix R3 [45] = dn) (epl : Lib.hasPrefix R3 [43] = pl) (esg : sgn = (dn || pl)) (eX4 : hxR4 T = X4) (ePW : tkD X4 = PW) (eRX : dpD X4 = RX) (eA : W ++ PA = A)
    (hno : (ok = false ∨ p = false ∨ A = [] ∨ PW = [] ∨ 5 < PW.length ∨ RX ≠ []) → v0 = false ∧ v1 = [] ∧ v2 = 0 ∧ v3 = false)
    (hyes : ok = true → p = true → A ≠ [] → PW ≠ [] → PW.length ≤ 5 → RX = [] → v0 = neg ∧ v1 = A ∧ v2 = (if dn = true then -((dvl PW : Nat) : Int) else ((dvl PW : Nat) : Int)) - 4 * (PA.length : Int) ∧ v3 = true) :
    Calls Tryz.prog 118 #[.string (bsOf L)] w fun e w' => e = .returned (.tuple #[.bool v0, .string (bsOf v1), .int .i64 v2, .bool v3]) ∧ Below w.heap.size w w' := by
  have lT0 : T0.length ≤ 1000 := by rw [← eT0]; exact Nat.le_trans (trimPrefix_len L [45]) hl
  have lT : T.length ≤ 1000 := by rw [← eT]; exact Nat.le_trans (trimPrefix_len _ _) lT0
  have lW : W.length + PA.length ≤ 1000 := by rw [← eW, ← ePA]; exact Nat.le_trans (hxPA_len T) lT
  have lY : Y.length ≤ 1000 := by have := dpH_len T; rw [eY] at this; omega
  have lY1 : Y1.length ≤ 1000 := by rw [← eY1]; exact Nat.le_trans (trimPrefix_len _ _) lY
  have hpt : pt = true → tkH Y1 = PA ∧ dpH Y1 = R2 := fun h => by
    have e1 : Y1 = Y.drop 1 := by rw [← eY1, trimPrefix_one, if_pos (by rw [ept, h])]
    have e2 : hxPt T = true := by unfold hxPt; rw [eY, ept, h]
    rw [e1, ← ePA, ← eR2]
    unfold hxPA hxR2
    rw [e2, if_pos rfl, if_pos rfl, eY]
    exact ⟨rfl, rfl⟩
  have hpf : pt = false → PA = [] ∧ R2 = Y := fun h => by
    have e2 : hxPt T = false := by unfold hxPt; rw [eY, ept, h]
    rw [← ePA, ← eR2]
    unfold hxPA hxR2
    rw [e2, if_neg (by decide), if_neg (by decide)]
    exact ⟨rfl, eY⟩
  have lR2 : R2.length ≤ 1000 := by
    cases hp : pt
    · rw [(hpf hp).2]; exact lY
    · have := dpH_len Y1; rw [(hpt hp).2] at this; omega
  have lR3 : R3.length ≤ 1000 := by rw [← eR3]; exact Nat.le_trans (trimPrefix_len _ _) lR2
  have eR3' : hxR3 T = R3 := by unfold hxR3; rw [eR2, eR3]
  have eX : (sgn = true → X4 = R3.drop 1) ∧ (sgn = false → X4 = R3) := by
    rw [← eX4]
    unfold hxR4 hxSg hxDn
    rw [eR3', edn, epl, ← esg]
    exact ⟨fun h => by rw [h, if_pos rfl], fun h => by rw [h, if_neg (by decide)]⟩
  have hr1 : sgn = true → 1 ≤ R3.length := fun h => hx_r4 R3 dn pl edn epl (by rw [← esg]; exact h)
  have lX4 : X4.length ≤ 1000 := by
    cases hs : sgn
    · rw [eX.2 hs]; exact lR3
    · rw [eX.1 hs, List.length_drop]; omega
  have hPWd : AllDg PW := by rw [← ePW]; exact all_tk X4
  have C1 := hid (show ∀ w, Calls Tryz.prog 102 #[.string (bsOf L), .string ⟨#[45]⟩] w fun e w' => e = .returned (.tuple #[.string (bsOf T0), .bool neg]) ∧ w = w' from fun w => by
    have h := cutP_any L [45] w
    rw [en] at h; rw [← eT0]; exact h)
  have C2 := hid (show ∀ w, Calls Tryz.prog 102 #[.string (bsOf T0), .string ⟨#[48, 120]⟩] w fun e w' => e = .returned (.tuple #[.string (bsOf T), .bool ok]) ∧ w = w' from fun w => by
    have h := cutP_any T0 [48, 120] w
    rw [eT, eok] at h; exact h)
  have C3 := hid (show ∀ w, Calls Tryz.prog 102 #[.string (bsOf Y), .string ⟨#[46]⟩] w fun e w' => e = .returned (.tuple #[.string (bsOf Y1), .bool pt]) ∧ w = w' from fun w => by
    have h := cutP_any Y [46] w
    rw [eY1, ept] at h; exact h)
  have C4 := hid (show ∀ w, Calls Tryz.prog 102 #[.string (bsOf R2), .string ⟨#[112]⟩] w fun e w' => e = .returned (.tuple #[.string (bsOf R3), .bool p]) ∧ w = w' from fun w => by
    have h := cutP_any R2 [112] w
    rw [eR3, ep] at h; exact h)
  have H1 := hid (show ∀ w, Calls Tryz.prog 110 #[.string (bsOf R3), .string ⟨#[45]⟩] w fun e w' => e = .returned (.bool dn) ∧ w = w' from fun w => by
    have h := hasP_any R3 [45] w
    rw [edn] at h; exact h)
  have H2 := hid (show ∀ w, Calls Tryz.prog 110 #[.string (bsOf R3), .string ⟨#[43]⟩] w fun e w' => e = .returned (.bool pl) ∧ w = w' from fun w => by
    have h := hasP_any R3 [43] w
    rw [epl] at h; exact h)
  have K1 := hid (fun w => takeHx_any T w (by omega))
  rw [eW, eY] at K1
  have K2 := hid (fun w => takeHx_any Y1 w (by omega))
  have K3 := hid (fun w => takeDg_any X4 w (by omega))
  rw [ePW, eRX] at K3
  have SD : ∀ w, (Instr.slice 9 (.string ⟨#[48, 49, 50, 51, 52, 53, 54, 55, 56, 57, 97, 98, 99, 100, 101, 102]⟩) none (some (.int .i64 10)) none).run Tryz.prog w = .ok (.string ⟨#[48, 49, 50, 51, 52, 53, 54, 55, 56, 57]⟩) w := fun w =>
    slice_to (P := Tryz.prog) Tryz.underlying9 [48, 49, 50, 51, 52, 53, 54, 55, 56, 57, 97, 98, 99, 100, 101, 102] 10 (by omega) (by simp) w
  have S1 : sgn = true → ∀ w, (Instr.slice 9 (.string (bsOf R3)) (some (.int .i64 1)) none none).run Tryz.prog w = .ok (.string (bsOf X4)) w := fun h w => by
    have h9 := slice_from (P := Tryz.prog) Tryz.underlying9 R3 1 (by omega) (by have := hr1 h; omega) w
    rw [h9, eX.1 h]; rfl
  have S2 : sgn = false → bsOf R3 = bsOf X4 := fun h => by rw [eX.2 h]
  have ka := add_bs (P := Tryz.prog) W PA (by omega)
  rw [eA] at ka
  have hAe : (bsOf A).toList.isEmpty = A.isEmpty := by rw [bs_toList]
  have hPe : (bsOf PW).toList.isEmpty = PW.isEmpty := by rw [bs_toList]
  have hRe : (bsOf RX).toList.isEmpty = RX.isEmpty := by rw [bs_toList]
  have hPz := bs_size PW
  have hPAz := bs_size PA
  obtain ⟨d, hd⟩ : ∃ d, d = dvl PW := ⟨_, rfl⟩
  have AT := hid (show PW ≠ [] → PW.length ≤ 5 → ∀ w, Calls Tryz.prog 181 #[.string (bsOf PW)] w fun e w' => e = .returned (.tuple #[.int .i64 (d : Int), .nilIface]) ∧ Below w.heap.size w w' from fun h0 h5 w => by
    refine (Tryz.strconv_Atoi (bsOf PW) (d : Int) (by rw [bs_size]; omega) (by rw [bs_list, hd]; exact atoi_dv PW hPWd h0) w).mono ?_
    rintro e w1 ⟨rfl, t, rfl⟩
    exact ⟨rfl, Lib.bytesWorld_below _ _ _⟩)
  have hdb : PW.length ≤ 5 → d < 100000 := fun h => by
    have h1 := dvl_lt PW hPWd
    have h2 : 10 ^ PW.length ≤ 10 ^ 5 := Nat.pow_le_pow_right (by omega) h
    have h3 : (10 : Nat) ^ 5 = 100000 := by decide
    omega
  rw [← hd] at hyes
  have HD := hid hdb
  have HY := hid hyes
  have HN := hid hno
  have HS := hid esg
  obtain ⟨n, hn⟩ : ∃ n, n = PW.length := ⟨_, rfl⟩
  obtain ⟨m, hm⟩ : ∃ n, n = PA.length := ⟨_, rfl⟩
  rw [← hn] at hPz
  rw [← hm] at hPAz
  have HNn := hid hn
  have HM := hid (show m ≤ 1000 ∧ m = PA.length from ⟨by omega, hm⟩)
  clear eT0 en eT eok eW eY ept eY1 ePA eR2 ep eR3 edn epl esg eX4 ePW eRX eA hno hyes lT0 lT lW lY lY1 lR2 lR3 eR3' eX hr1 lX4 hPWd hdb hd hn hm
  go_enter Tryz.func118, Tryz.ntmps118
  go_upto_if 39 with (first
    | (go_at_call 102; first | ((with_reducible refine (C1.out _).mono ?_); rintro en w1 ⟨rfl, rfl⟩) | ((with_reducible refine (C2.out _).mono ?_); rintro en w1 ⟨rfl, rfl⟩) | ((with_reducible refine (C3.out _).mono ?_); rintro en w1 ⟨rfl, rfl⟩))
    | (go_at_call 190; (with_reducible refine (K1.out _).mono ?_); rintro en w1 ⟨rfl, hb1⟩))
  obtain ⟨W1, hW1⟩ : ∃ W, W = w1 := ⟨_, rfl⟩
  subst hW1
  go_cut [6, 10] (fun s6 s10 wx => s6 = .string (bsOf R2) ∧ s10 = .string (bsOf PA) ∧ Below W1.heap.size W1 wx)
  case first => as_aux_lemma =>
    clear C1 C2 C4 H1 H2 K1 K3 HY HN HD AT ka
    cases pt
    · obtain ⟨e1, e2⟩ := hpf rfl
      subst e1
      subst e2
      clear hpf hpt
      go_wp2_with fail
      go_meet
      exact ⟨rfl, rfl, Below.refl _ _⟩
    · obtain ⟨e1, e2⟩ := hpt rfl
      rw [e1, e2] at K2
      clear hpf hpt e1 e2
      go_wp2_with (go_at_call 190; (with_reducible refine (K2.out _).mono ?_); rintro en w2 ⟨rfl, hb2⟩)
      go_meet
      exact ⟨rfl, rfl, hb2⟩
  case rest =>
  obtain ⟨rfl, rfl, hb2⟩ := hcut
  obtain ⟨W2, hW2⟩ : ∃ W, W = wc := ⟨_, rfl⟩
  subst hW2
  clear C1 C2 C3 K1 K2 hpf hpt
  go_upto_region 10 with (first
    | (go_at_call 102; (with_reducible refine (C4.out _).mono ?_); rintro en w1 ⟨rfl, rfl⟩)
    | (go_at_call 110; (with_reducible refine (H1.out _).mono ?_); rintro en w1 ⟨rfl, rfl⟩))
  go_cut [56] (fun s56 wx => s56 = .bool sgn ∧ wx = W2)
  case first => as_aux_lemma =>
    clear C4 H1 K3 HY HN HD AT ka S1 S2
    have HS := HS.out
    cases dn
    · have HS9 := hid (show sgn = pl by rw [HS]; rfl)
      clear HS
      go_wp2_with (go_at_call 110; (with_reducible refine (H2.out _).mono ?_); rintro en w1 ⟨rfl, rfl⟩)
      go_meet
      exact ⟨by rw [HS9.out], rfl⟩
    · have HS9 := hid (show sgn = true by rw [HS]; rfl)
      clear HS
      go_wp2_with fail
      go_meet
      exact ⟨by rw [HS9.out], rfl⟩
  case rest =>
  obtain ⟨rfl, hwc⟩ := hcut
  subst hwc
  clear C4 H1 H2
  go_upto_if 56 with fail
  go_cut [6] (fun s6 wx => s6 = .string (bsOf X4) ∧ wx = wc)
  case first => as_aux_lemma =>
    clear K3 HY HN HD AT ka HS
    cases sgn
    · have e1 := hid (S2 rfl)
      clear S1 S2
      go_wp2_with fail
      go_meet
      exact ⟨by rw [e1.out], rfl⟩
    · have e1 := S1 rfl
      clear S1 S2
      go_wp2_with fail
      go_meet
      exact ⟨rfl, rfl⟩
  case rest =>
  obtain ⟨rfl, hwc⟩ := hcut
  subst hwc
  clear S1 S2 HS
  go_upto_region 13 with (go_at_call 190; (with_reducible refine (K3.out _).mono ?_); rintro en w3 ⟨rfl, hb3⟩)
  have hb := below_trans (below_trans hb1 hb2) hb3
  obtain ⟨W3, hW3⟩ : ∃ W, W = w3 := ⟨_, rfl⟩
  subst hW3
  clear hb1 hb2 hb3 K3 SD
  cases ok
  · obtain ⟨rfl, rfl, rfl, rfl⟩ := HN.out (.inl rfl)
    clear HN HY HD AT HM HNn
    go_wp2_with fail
    (try simp only [Exit.inBlock, Exit.then]); refine bodyPost_ret (ret4 rfl _ _ _) rfl ?_
    exact ⟨rfl, hb⟩
  cases p
  · obtain ⟨rfl, rfl, rfl, rfl⟩ := HN.out (.inr (.inl rfl))
    clear HN HY HD AT HM HNn
    go_wp2_with fail
    (try simp only [Exit.inBlock, Exit.then]); refine bodyPost_ret (ret4 rfl _ _ _) rfl ?_
    exact ⟨rfl, hb⟩
  by_cases hA : A = []
  · have hAe2 : (bsOf A).toList.isEmpty = true := by rw [hAe, hA]; rfl
    have hA9 := hid hA
    clear hAe hA
    obtain ⟨rfl, rfl, rfl, rfl⟩ := HN.out (.inr (.inr (.inl hA9.out)))
    clear HN HY HD AT HM HNn
    go_wp2_with fail
    (try simp only [Exit.inBlock, Exit.then]); refine bodyPost_ret (ret4 rfl _ _ _) rfl ?_
    exact ⟨rfl, hb⟩
  have hAe2 : (bsOf A).toList.isEmpty = false := by rw [hAe]; exact List.isEmpty_eq_false_iff.2 hA
  have hA9 := hid hA
  clear hAe hA
  by_cases hP : PW = []
  · have hPe2 : (bsOf PW).toList.isEmpty = true := by rw [hPe, hP]; rfl
    have hP9 := hid hP
    clear hPe hP
    obtain ⟨rfl, rfl, rfl, rfl⟩ := HN.out (.inr (.inr (.inr (.inl hP9.out))))
    clear HN HY HD AT HM HNn
    go_wp2_with fail
    (try simp only [Exit.inBlock, Exit.then]); refine bodyPost_ret (ret4 rfl _ _ _) rfl ?_
    exact ⟨rfl, hb⟩
  have hPe2 : (bsOf PW).toList.isEmpty = false := by rw [hPe]; exact List.isEmpty_eq_false_iff.2 hP
  have hP9 := hid hP
  clear hPe hP
  by_cases h5 : 5 < n
  · have h59 := hid (show 5 < PW.length by rw [← HNn.out]; exact h5)
    obtain ⟨rfl, rfl, rfl, rfl⟩ := HN.out (.inr (.inr (.inr (.inr (.inl h59.out)))))
    clear HN HY HD AT HM HNn
    go_wp2_with fail
    (try simp only [Exit.inBlock, Exit.then]); refine bodyPost_ret (ret4 rfl _ _ _) rfl ?_
    exact ⟨rfl, hb⟩
  have h59 := hid (show PW.length ≤ 5 by have := HNn.out; omega)
  by_cases hR : RX = []
  · have hRe2 : (bsOf RX).toList.isEmpty = true := by rw [hRe, hR]; rfl
    obtain ⟨rfl, rfl, e2, rfl⟩ := HY.out rfl rfl hA9.out hP9.out h59.out hR
    have AT2 := hid (AT.out hP9.out h59.out)
    have hd9 := HD.out h59.out
    have hm9 := HM.out
    rw [← hm9.2] at e2
    replace hm9 := hm9.1
    clear hRe hR HY HN HD AT HM HNn hA9 hP9 h59
    have w1 : IntKind.i64.wrap (-(d : Int)) = -(d : Int) := IntWalk.i64_in _ (by omega)
    have w2 : IntKind.i64.wrap (4 * (m : Int)) = 4 * (m : Int) := IntWalk.i64_in _ (by omega)
    have w3 : IntKind.i64.wrap ((d : Int) - 4 * (m : Int)) = (d : Int) - 4 * (m : Int) := IntWalk.i64_in _ (by omega)
    have w4 : IntKind.i64.wrap (-(d : Int) - 4 * (m : Int)) = -(d : Int) - 4 * (m : Int) := IntWalk.i64_in _ (by omega)
    cases dn
    · rw [if_neg (by decide)] at e2
      subst e2
      go_wp2_with (go_at_call 181; (with_reducible refine (AT2.out _).mono ?_); rintro en w5 ⟨rfl, hb5⟩)
      (try simp only [Exit.inBlock, Exit.then]); refine bodyPost_ret (ret4 rfl _ _ _) rfl ?_
      exact ⟨rfl, below_trans hb hb5⟩
    · rw [if_pos rfl] at e2
      subst e2
      go_wp2_with (go_at_call 181; (with_reducible refine (AT2.out _).mono ?_); rintro en w5 ⟨rfl, hb5⟩)
      (try simp only [Exit.inBlock, Exit.then]); refine bodyPost_ret (ret4 rfl _ _ _) rfl ?_
      exact ⟨rfl, below_trans hb hb5⟩
  · have hRe2 : (bsOf RX).toList.isEmpty = false := by rw [hRe]; exact List.isEmpty_eq_false_iff.2 hR
    have hR9 := hid hR
    clear hRe hR
    obtain ⟨rfl, rfl, rfl, rfl⟩ := HN.out (.inr (.inr (.inr (.inr (.inr hR9.out)))))
    clear HN HY HD AT HM HNn
    go_wp2_with fail
    (try simp only [Exit.inBlock, Exit.then]); refine bodyPost_ret (ret4 rfl _ _ _) rfl ?_
    exact ⟨rfl, hb⟩
theorem hrO_no {L : List UInt8} (h : hrO L = false) : Lib.hasPrefix (rdT L) [48, 120] = false ∨ Lib.hasPrefix (hxR2 (hrT L)) [112] = false ∨ tkH (hrT L) ++ hxPA (hrT L) = [] ∨ tkD (hxR4 (hrT L)) = [] ∨ 5 < (tkD (hxR4 (hrT L))).length ∨ dpD (hxR4 (hrT L)) ≠ [] := by
  unfold hrO hxOk at h
  simp only [Bool.and_eq_false_iff, Bool.not_eq_false', decide_eq_false_iff_not, List.isEmpty_iff, List.isEmpty_eq_false_iff] at h
  rcases h with h | (((h | h) | h) | h) | h
  · exact .inl h
  · exact .inr (.inl h)
  · exact .inr (.inr (.inl h))
  · exact .inr (.inr (.inr (.inl h)))
  · exact .inr (.inr (.inr (.inr (.inl (by omega)))))
  · exact .inr (.inr (.inr (.inr (.inr h))))
theorem hrO_yes {L : List UInt8} (h : hrO L = true) : Lib.hasPrefix (rdT L) [48, 120] = true ∧ Lib.hasPrefix (hxR2 (hrT L)) [112] = true ∧ tkH (hrT L) ++ hxPA (hrT L) ≠ [] ∧ tkD (hxR4 (hrT L)) ≠ [] ∧ (tkD (hxR4 (hrT L))).length ≤ 5 ∧ dpD (hxR4 (hrT L)) = [] := by
  unfold hrO hxOk at h
  simp only [Bool.and_eq_true, Bool.not_eq_true', decide_eq_true_eq, List.isEmpty_iff, List.isEmpty_eq_false_iff] at h
  obtain ⟨h1, ⟨⟨⟨h2, h3⟩, h4⟩, h5⟩, h6⟩ := h
  exact ⟨h1, h2, h3, h4, h5, h6⟩
theorem hparse_ok (L : List UInt8) (w : World) (hl : L.length ≤ 1000) (h : hrO L = true) :
    Calls Tryz.prog 118 #[.string (bsOf L)] w fun e w' => e = .returned (.tuple #[.bool (hrN L), .string (bsOf (hrD L)), .int .i64 (hrK L), .bool true]) ∧ Below w.heap.size w w' := by
  obtain ⟨h1, h2, h3, h4, h5, h6⟩ := hrO_yes h
  exact hparse_core L _ (hrT L) _ _ _ _ _ _ _ _ _ _ _ _ _ _ (hxDn (hrT L)) _ _ _ _ _ _ w hl rfl rfl rfl rfl rfl rfl rfl rfl rfl rfl rfl rfl rfl rfl rfl rfl rfl rfl rfl 
    (fun h9 => by
      rcases h9 with h9 | h9 | h9 | h9 | h9 | h9
      · rw [h1] at h9; cases h9
      · rw [h2] at h9; cases h9
      · exact absurd h9 h3
      · exact absurd h9 h4
      · omega
      · exact absurd h6 h9)
    (fun _ _ _ _ _ _ => ⟨rfl, rfl, rfl, rfl⟩)
theorem hparse_err (L : List UInt8) (w : World) (hl : L.length ≤ 1000) (h : hrO L = false) :
    Calls Tryz.prog 118 #[.string (bsOf L)] w fun e w' => e = .returned (.tuple #[.bool false, .string (bsOf []), .int .i64 0, .bool false]) ∧ Below w.heap.size w w' := by
  exact hparse_core L _ (hrT L) _ _ _ _ _ _ _ _ _ _ _ _ _ _ (hxDn (hrT L)) _ _ _ _ _ _ w hl rfl rfl rfl rfl rfl rfl rfl rfl rfl rfl rfl rfl rfl rfl rfl rfl rfl rfl rfl 
    (fun _ => ⟨rfl, rfl, rfl, rfl⟩)
    (fun g1 g2 g3 g4 g5 g6 => by
      exfalso
      rcases hrO_no h with h9 | h9 | h9 | h9 | h9 | h9
      · rw [h9] at g1; cases g1
      · rw [h9] at g2; cases g2
      · exact g3 h9
      · exact g4 h9
      · omega
      · exact h9 g6)
end Go.Proofs.YthaelmnblgollaaGreatDoor

set_option linter.unusedVariables false
set_option linter.unusedSimpArgs false
namespace Go.Ulp
open Go.RowKit
theorem limbs_hex (k : Nat) (hk : k ≤ 1000) : (limbs (16 ^ k)).length ≤ 3002 := by
  refine Nat.le_trans (limbs_len_mono (n := 10 ^ 2000) ?_) (limbs_ten 2000 (by omega))
  obtain ⟨T, hT⟩ : ∃ T : Nat, T = 2000 := ⟨_, rfl⟩
  rw [← hT]
  have h1 : 16 ^ k ≤ 16 ^ (T / 2) := Nat.pow_le_pow_right (by omega) (by omega)
  have h2 : 16 ^ (T / 2) ≤ 100 ^ (T / 2) := Nat.pow_le_pow_left (by omega) _
  have h3 : 100 ^ (T / 2) = 10 ^ T := by
    rw [show (100 : Nat) = 10 ^ 2 from rfl, ← Nat.pow_mul]; congr 1; omega
  omega
end Go.Ulp
namespace Go.Proofs.YthaelmnblgollaaGreatDoor
open Go.RowKit Go.Ulp
set_option linter.unusedVariables false
set_option linter.unusedSimpArgs false
set_option maxHeartbeats 2000000
set_option maxRecDepth 100000
theorem mantissa_any (L : List UInt8) (w : World) (hL : AllHx L) (hl : L.length ≤ 1000) :
    Calls Tryz.prog 119 #[.string (bsOf L)] w (RetNc w (hvl L)) := by
  obtain ⟨Z, hZ⟩ : ∃ Z, Z = hvl L := ⟨_, rfl⟩
  rw [← hZ]
  go_enter Tryz.func119, Tryz.ntmps119
  go_wp2_with fail
  go_loopw [0, 3] (fun s0 s3 wr => ∃ (Q : List UInt8) (x : Nat) (a : Option Addr) (c : Nat), s0 = .string (bsOf Q) ∧ s3 = .slice a (limbs x).length c ∧ Ns .u32 wr a c (limbs x) ∧ AllHx Q ∧ hvA x Q = Z ∧ Q.length ≤ 1000 ∧ x < 16 ^ (1000 - Q.length) ∧ Below w.heap.size w wr) (fun s0 _ _ => strSz s0)
  case atStart => exact ⟨L, 0, none, 0, rfl, rfl, Ns.nil, hL, hZ.symm, hl, Nat.pow_pos (by omega), Below.refl _ _⟩
  case round =>
    obtain ⟨Q, x, a, c, rfl, rfl, hN, hQ, hx, hq, hxl, hb⟩ := hrel
    by_cases hQ0 : Q = []
    · subst hQ0
      have e : x = Z := hx
      subst e
      have HN := hid hN
      clear hN hx
      have hsz : (bsOf []).size = 0 := rfl
      go_wp2_with fail
      go_ret
      exact ⟨a, c, rfl, HN.out, hb⟩
    · have hq0 : 0 < Q.length := List.length_pos_iff.2 hQ0
      obtain ⟨k, hk⟩ : ∃ k : Nat, k = min Q.length 8 := ⟨_, rfl⟩
      have hk1 : 0 < k ∧ k ≤ 8 ∧ k ≤ Q.length := by omega
      have hmn : min (Q.length : Int) 8 = (k : Int) := by omega
      have hsz := bs_size Q
      have S1 := slice_to (P := Tryz.prog) Tryz.underlying9 Q (k : Int) (by omega) (by omega)
      have S2 := slice_from (P := Tryz.prog) Tryz.underlying9 Q (k : Int) (by omega) (by omega)
      rw [Int.toNat_natCast] at S1 S2
      have htl : (Q.take k).length = k := by rw [List.length_take]; omega
      have hdl : (Q.drop k).length = Q.length - k := List.length_drop
      obtain ⟨y, hy⟩ : ∃ y, y = hvl (Q.take k) := ⟨_, rfl⟩
      have hyb : y < 16 ^ 8 := by
        have h1 := hvl_lt (Q.take k) (hQ.take k)
        rw [htl, ← hy] at h1
        exact Nat.lt_of_lt_of_le h1 (Nat.pow_le_pow_right (by omega) (by omega))
      have hyb2 : y < 4294967296 := by
        have : (16 : Nat) ^ 8 = 4294967296 := by decide
        omega
      have PU := hid (show ∀ w, Calls Tryz.prog 191 #[.string (bsOf (Q.take k)), .int .i64 16, .int .i64 64] w fun e w' => e = .returned (.tuple #[.int .u64 (y : Int), .nilIface]) ∧ Below w.heap.size w w' from fun w => by
        rw [hy]
        exact pu16_any (Q.take k) w (hQ.take k) (by omega) (by omega))
      obtain ⟨E, hE⟩ : ∃ E : Nat, E = 1000 := ⟨_, rfl⟩
      have hx1 : 16 ^ (1000 - Q.length) ≤ 16 ^ E := Nat.pow_le_pow_right (by omega) (by omega)
      have lx := limbs_hex E (by omega)
      have lx1 : (limbs x).length ≤ 3002 := Nat.le_trans (limbs_len_mono (by omega)) lx
      have e4 : 16 ^ k = 2 ^ (4 * k) := by rw [show (16 : Nat) = 2 ^ 4 from rfl, ← Nat.pow_mul]
      have LE := hid (fun a c w h0 => leftN_any a c x (4 * k) w h0 (by omega) (by omega))
      rw [← e4] at LE
      have hxn : x * 16 ^ k + y < 16 ^ (1000 - (Q.length - k)) := by
        have h1 : y < 16 ^ k := by rw [hy]; have := hvl_lt (Q.take k) (hQ.take k); rw [htl] at this; exact this
        have h2 : (x + 1) * 16 ^ k ≤ 16 ^ (1000 - Q.length) * 16 ^ k := Nat.mul_le_mul_right _ hxl
        rw [← Nat.pow_add, show 1000 - Q.length + k = 1000 - (Q.length - k) by omega, Nat.add_mul, Nat.one_mul] at h2
        omega
      have hx2 : 16 ^ (1000 - (Q.length - k)) ≤ 16 ^ E := Nat.pow_le_pow_right (by omega) (by omega)
      have lt1 : (limbs (x * 16 ^ k)).length ≤ 3002 := Nat.le_trans (limbs_len_mono (by omega)) lx
      have ly : (limbs y).length ≤ 3002 := Nat.le_trans (limbs_len_mono (by have : 16 ^ 8 ≤ 16 ^ E := Nat.pow_le_pow_right (by omega) (by omega); omega)) lx
      have OF := hid (fun w => natOf_any y (by omega) w)
      have PL := hid (fun a b c d w h0 h1 => plus_any a b c d (x * 16 ^ k) y w h0 h1 (by omega) (by omega))
      have hnx : hvA (x * 16 ^ k + y) (Q.drop k) = Z := by
        have h9 := hvA_split x k Q
        rw [htl, ← hy] at h9
        rw [h9, hx]
      have hQd := hQ.drop k
      have HN := hid hN
      have HX := hid hnx
      have HM := hid (show (Q.drop k).length < Q.length by omega)
      have HD := hid hxn
      rw [← hdl] at HD
      have hdl2 : (Q.drop k).length ≤ 1000 := by omega
      have w4 : IntKind.i64.wrap (4 * (k : Int)) = 4 * (k : Int) := IntWalk.i64_in _ (by omega)
      have k4 : (((4 * k : Nat) : Int)) = 4 * (k : Int) := by omega
      rw [k4] at LE
      obtain ⟨n, hn⟩ : ∃ n, n = Q.length := ⟨_, rfl⟩
      rw [← hn] at hmn hsz hq0 hk1
      obtain ⟨X, hX⟩ : ∃ X, X = x * 16 ^ k := ⟨_, rfl⟩
      rw [← hX] at LE PL HX HD
      clear hE hN hnx hxn hx1 hx2 lx lx1 lt1 ly hX hn htl hdl hy hx hxl hk e4 k4 hyb
      go_wp2_with (first
        | (go_at_call 191; (with_reducible refine (PU.out _).mono ?_); rintro en w1 ⟨rfl, hb1⟩)
        | (go_at_call 192; (with_reducible refine (LE.out _ _ _ (HN.out.below hb1)).mono ?_); rintro en w3 ⟨a3, rfl, hN3, hb3⟩)
        | (go_at_call 120; (with_reducible refine (OF.out _).mono ?_); rintro en w4 ⟨a4, rfl, hN4, hb4⟩)
        | (go_at_call 135; (with_reducible refine (PL.out _ _ _ _ _ (hN3.below hb4) hN4).mono ?_); rintro en w5 ⟨a5, rfl, hN5, hb5⟩))
      go_roundw
      case rel => exact ⟨Q.drop k, X + y, a5, _, rfl, rfl, hN5, hQd, HX.out, hdl2, HD.out, below_trans (below_trans (below_trans (below_trans hb hb1) hb3) hb4) hb5⟩
      case measure => rw [strSz_bs, strSz_bs]; exact HM.out
end Go.Proofs.YthaelmnblgollaaGreatDoor
