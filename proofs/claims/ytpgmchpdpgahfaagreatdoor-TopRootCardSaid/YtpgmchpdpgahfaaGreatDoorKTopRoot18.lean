/- TopRoot: what the proof leans on, part 18 (Hp Re12 Re13 Re10 Re14 Su1 Su2 Su3). -/
import Derived.Test.YtpgmchpdpgahfaaGreatDoorKTopRoot8
import Derived.Test.YtpgmchpdpgahfaaGreatDoorKTopRoot11
import Derived.Test.YtpgmchpdpgahfaaGreatDoorKTopRoot12
import Derived.Test.YtpgmchpdpgahfaaGreatDoorKTopRoot14
import Derived.Test.YtpgmchpdpgahfaaGreatDoorKTopRoot16
import Derived.Test.YtpgmchpdpgahfaaGreatDoorKTopRoot17
set_option linter.unusedVariables false
set_option linter.unusedSimpArgs false
namespace Go.Ulp
open Go.RowKit
/-- the power of two at the top of a number -/
def hfK (D : Dy) : Int := (bl D.1.natAbs : Int) + D.2 - 1
/-- a variable of type Q: its parts by name, and what it is worth -/
def QW (tq ti : TypeId) (w : World) (g : Nat) (D : Dy) (A T : Nat) (X : Int) (n : Nat) (ao : Option Addr) (cap : Nat) : Prop :=
  QL tq w g (zneg X) (.slice ao (zl X).length cap) (n : Int) ∧ QD ti w D A T (.agg #[.bool (zneg X), .slice ao (zl X).length cap, .int .i64 (n : Int)])
theorem QW.below {tq ti : TypeId} {w w' : World} {g : Nat} {D : Dy} {A T : Nat} {X : Int} {n : Nat} {ao : Option Addr} {cap : Nat} (h : QW tq ti w g D A T X n ao cap) (hb : Below w.heap.size w w') : QW tq ti w' g D A T X n ao cap := ⟨h.1.below hb, h.2.below hb⟩
theorem QW.made {tq ti : TypeId} {w : World} {D : Dy} {A T : Nat} {X : Int} {n : Nat} {ao : Option Addr} {cap : Nat} (h : QD ti w D A T (.agg #[.bool (zneg X), .slice ao (zl X).length cap, .int .i64 (n : Int)])) :
    QW tq ti (w.alloc (.cells #[.bool (zneg X), .slice ao (zl X).length cap, .int .i64 (n : Int)] tq)) w.heap.size D A T X n ao cap := ⟨QL.made rfl, h.below (below_alloc _ _)⟩
theorem QW.cells {tq ti : TypeId} {w : World} {g : Nat} {D : Dy} {A T : Nat} {X : Int} {n : Nat} {ao : Option Addr} {cap : Nat} (h : QW tq ti w g D A T X n ao cap) :
    w.cell? ⟨g, 0, none⟩ = some (.bool (zneg X)) ∧ w.cell? ⟨g, 1, none⟩ = some (.slice ao (zl X).length cap) ∧ w.cell? ⟨g, 2, none⟩ = some (.int .i64 (n : Int)) := ⟨h.1.1.1, h.1.1.2.1, h.1.2.1⟩
/-- a value is stored into a new variable -/
theorem QW.stored {tq ti : TypeId} {w0 wn : World} {g : Nat} {D : Dy} {A T : Nat} {X : Int} {n : Nat} {ao : Option Addr} {cap : Nat} {b : Bool} {v : Value} {k : Int} (hne : tq ≠ ti) (hb : Below w0.heap.size w0 wn) (hg : w0.heap.size ≤ g) (z : QL tq wn g b v k) (h : QD ti wn D A T (.agg #[.bool (zneg X), .slice ao (zl X).length cap, .int .i64 (n : Int)])) :
    Below w0.heap.size w0 (((wn.setCell ⟨g, 0, none⟩ (.bool (zneg X))).setCell ⟨g, 1, none⟩ (.slice ao (zl X).length cap)).setCell ⟨g, 2, none⟩ (.int .i64 (n : Int))) ∧ QW tq ti (((wn.setCell ⟨g, 0, none⟩ (.bool (zneg X))).setCell ⟨g, 1, none⟩ (.slice ao (zl X).length cap)).setCell ⟨g, 2, none⟩ (.int .i64 (n : Int))) g D A T X n ao cap := by
  obtain ⟨x, m, a, c, h1, h2, h3, h4, h5⟩ := h
  refine ⟨Go.Ulp.Below.put3 hb hg _ _ _, z.put _ _ _, ⟨x, m, a, c, h1, ?_, h3, h4, h5⟩⟩
  exact h2.set3Q z hne _ _ _
end Go.Ulp




set_option linter.unusedVariables false
set_option linter.unusedSimpArgs false
namespace Go.Ulp
open Go.RowKit
def RetNm (w : World) (x : Int) (c : Bool) (k : Int) (e : Ending) (w' : World) : Prop := e = .returned (.tuple #[.int .u64 x, .bool c, .int .i64 k]) ∧ Below w.heap.size w w'
theorem RdOk.pos {A B M : Nat} {e : Int} (h : RdOk A B M e) : 0 < M := h.1
theorem drop_head (p : UInt8 → Bool) : ∀ (A : List UInt8) (b : UInt8) (r : List UInt8), A.dropWhile p = b :: r → p b = false
  | [], b, r, h => by cases h
  | a :: t, b, r, h => by
    rw [List.dropWhile_cons] at h
    split at h
    · exact drop_head p t b r h
    · rename_i h1
      injection h with h2 h3
      rw [← h2]; exact eq_false_of_ne_true h1
theorem drop_len (p : UInt8 → Bool) : ∀ A : List UInt8, (A.dropWhile p).length ≤ A.length
  | [] => by simp
  | a :: t => by
    rw [List.dropWhile_cons]
    split
    · have := drop_len p t; rw [List.length_cons]; omega
    · exact Nat.le_refl _
theorem drop_mem (p : UInt8 → Bool) : ∀ (A : List UInt8) (x : UInt8), x ∈ A.dropWhile p → x ∈ A
  | [], x, h => h
  | a :: t, x, h => by
    rw [List.dropWhile_cons] at h
    split at h
    · exact List.mem_cons_of_mem _ (drop_mem p t x h)
    · exact h
theorem rAll_dg (L : List UInt8) : AllDg (rAll L) := fun b hb => by
  unfold rAll at hb
  rcases List.mem_append.1 hb with h | h
  · exact all_tk _ b h
  · unfold rPart at h
    split at h
    · exact all_tk _ b h
    · cases h
theorem rPart_len (R : List UInt8) : (rPart R).length ≤ R.length := by
  unfold rPart; split
  · have := tk_len (R.drop 1); rw [List.length_drop] at this; omega
  · simp
theorem rAll_len (L : List UInt8) : (rAll L).length ≤ L.length := by
  unfold rAll
  have h1 := rPart_len (dpD (rdT L))
  have h2 := dp_len (rdT L)
  have h3 : (rdT L).length ≤ L.length := trimPrefix_len L [45]
  rw [List.length_append]; omega
theorem rD_dg (L : List UInt8) : AllDg (rD L) := fun b hb => rAll_dg L b (drop_mem _ _ b hb)
theorem rD_len (L : List UInt8) : (rD L).length ≤ L.length := Nat.le_trans (drop_len _ _) (rAll_len L)
theorem rD_ge (L : List UInt8) (h : rD L ≠ []) : 1 ≤ (rD L).length ∧ 10 ^ ((rD L).length - 1) ≤ dvl (rD L) := by
  cases hD : rD L with
  | nil => exact absurd hD h
  | cons b r =>
    have h1 := drop_head _ _ b r hD
    have h2 := rD_dg L
    rw [hD] at h2
    rw [List.length_cons]
    exact ⟨by omega, dvl_ge b r h2 (fun h9 => by rw [h9] at h1; exact absurd h1 (by decide))⟩
theorem rdE_zero {L : List UInt8} (h : rdE L = 0) : L.length ≤ 1000 := by
  unfold rdE at h
  split at h
  · omega
  · omega
theorem rdK_bd (L : List UInt8) (hl : rdE L = 0) : -2000000 ≤ rdK L ∧ rdK L ≤ 2000000 := by
  have h1 := pwV_bd (rPw L)
  have h2 := rPart_len (dpD (rdT L))
  have h3 := dp_len (rdT L)
  have h4 : (rdT L).length ≤ L.length := trimPrefix_len L [45]
  have h5 := rdE_zero hl
  unfold rdK; split <;> omega
end Go.Ulp
namespace Go.Proofs.YtpgmchpdpgahfaaGreatDoor
open Go.RowKit Go.Ulp
set_option linter.unusedVariables false
set_option linter.unusedSimpArgs false
set_option maxHeartbeats 2000000
set_option maxRecDepth 100000
theorem valueP_any (neg : Bool) (L : List UInt8) (k : Int) (w : World) (hL : AllDg L) (hl : 1 ≤ L.length ∧ L.length ≤ 1000) (hZ : 10 ^ (L.length - 1) ≤ dvl L) (hk : -2000000 ≤ k ∧ k ≤ 2000000) (hT : Tab 0 w) :
    Calls Tryz.prog 25 #[.bool neg, .string (bsOf L), .int .i64 k] w (RetRV w neg (rdNum (dvl L) L.length k) (rdDen L.length k)) := by
  by_cases h1 : 400 < (L.length : Int) + k
  · exact value_high neg L k w hL hl hZ hk h1
  by_cases h2 : (L.length : Int) + k < -400
  · exact value_low neg L k w hL hl hZ hk h2
  by_cases h3 : k < 0
  · exact value_part neg L k w hL hl hZ (by omega) (by omega) h3 hT
  · exact value_whole neg L k w hL hl hZ (by omega) (by omega) hT
theorem number_val (L : List UInt8) (mode : Int) (w : World) (hm : (0 ≤ mode ∧ mode ≤ 4)) (hl : L.length ≤ 9223372036854775807) (n1 : L ≠ [105, 110, 102]) (n2 : L ≠ [45, 105, 110, 102]) (n3 : L ≠ [110, 97, 110]) (h : rdE L = 0) (h0 : rdD L ≠ []) (hT : Tab 0 w) :
    Calls Tryz.prog 10 #[.string (bsOf L), .int .i64 mode] w fun e w' => ∃ M x, RdOk (rdNum (dvl (rdD L)) (rdD L).length (rdK L)) (rdDen (rdD L).length (rdK L)) M x ∧ RetNm w (numX (rdN L) M x mode) (numC (rdN L) M x mode) 0 e w' := by
  have KN := hid (fun w => known_any mode w)
  rw [show knownB mode = true by unfold knownB; exact decide_eq_true hm] at KN
  have q1 : ((bsOf L).toList == [105, 110, 102]) = false := by rw [bs_toList]; exact beq_eq_false_iff_ne.2 n1
  have q2 : ((bsOf L).toList == [45, 105, 110, 102]) = false := by rw [bs_toList]; exact beq_eq_false_iff_ne.2 n2
  have q3 : ((bsOf L).toList == [110, 97, 110]) = false := by rw [bs_toList]; exact beq_eq_false_iff_ne.2 n3
  have PZ := hid (fun w => parseP_any L w hl)
  have hD : rdD L = rD L := by unfold rdD; rw [if_pos h]
  have hk := rdK_bd L h
  have hlen := rD_len L
  have hl1 := rdE_zero h
  rw [hD] at h0
  have hge := rD_ge L h0
  rw [← hD] at hge hlen h0
  have VA := hid (fun w t => valueP_any (rdN L) (rdD L) (rdK L) w (by rw [hD]; exact rD_dg L) ⟨hge.1, by omega⟩ hge.2 hk t)
  have hde : (bsOf (rdD L)).toList.isEmpty = false := by rw [bs_toList]; exact List.isEmpty_eq_false_iff.2 h0
  have HT := hid hT
  rw [h] at PZ
  generalize rdNum (dvl (rdD L)) (rdD L).length (rdK L) = A at *
  generalize rdDen (rdD L).length (rdK L) = B at *
  obtain ⟨Q, hQ⟩ : ∃ Q, Q = bsOf L := ⟨_, rfl⟩
  rw [← hQ] at q1 q2 q3 PZ ⊢
  generalize rdN L = ne at *
  generalize rdD L = dd at *
  generalize rdK L = kk at *
  have NU := hid (fun (m : Nat) (a : Option Addr) (c : Nat) (x : Int) w h0 h1 h2 h3 => number_any ne a c m x mode w h0 h1 h2 h3)
  clear hQ n1 n2 n3 h0 h hD hk hlen hl1 hge hT
  go_enter Tryz.func10, Tryz.ntmps10
  go_wp2_with (first
    | (first | (go_at_call 15; (with_reducible refine (KN.out _).mono ?_); rintro en w1 ⟨rfl, rfl⟩) | (go_at_call 24; (with_reducible refine (PZ.out _).mono ?_); rintro en w2 ⟨rfl, hb2⟩))
    | (go_at_call 25; (with_reducible refine (VA.out _ (HT.out.below hb2)).mono ?_); rintro en w3 ⟨M, x, ⟨a3, c3, rfl, hN3, hb3⟩, hok, hML, hx0, hx1⟩; have HO := hid hok; clear hok)
    | (go_at_call 16; (with_reducible refine (NU.out M a3 c3 x _ hN3 hML ⟨hx0, hx1⟩ (fun h9 => absurd h9 (by have := HO.out.pos; omega))).mono ?_); rintro en w4 ⟨rfl, hb4⟩))
  go_ret3
  exact ⟨M, x, HO.out, rfl, below_trans (below_trans hb2 hb3) hb4⟩
end Go.Proofs.YtpgmchpdpgahfaaGreatDoor
set_option linter.unusedVariables false
set_option linter.unusedSimpArgs false
namespace Go.Proofs.YtpgmchpdpgahfaaGreatDoor
open Go.RowKit Go.Ulp
set_option linter.unusedVariables false
set_option linter.unusedSimpArgs false
set_option maxHeartbeats 2000000
set_option maxRecDepth 100000
end Go.Proofs.YtpgmchpdpgahfaaGreatDoor

set_option linter.unusedVariables false
set_option linter.unusedSimpArgs false
namespace Go.Ulp
open Go.RowKit
/-- what the loop holds -/
def AS (L : List Nat) (i : Nat) (inf : Int) (cl nn : Bool) (ng ps : Nat) (S : Int) : Prop :=
  inf = infTo L i ∧ cl = clashTo L i ∧ nn = anyTo isNan L i ∧ ng = cntTo mZer L i ∧ ps = cntTo pZer L i ∧ S = sumTo L i
theorem AS.start (L : List Nat) : AS L 0 0 false false 0 0 0 := ⟨rfl, rfl, rfl, rfl, rfl, rfl⟩
theorem AS.nan {L : List Nat} {i : Nat} {inf : Int} {cl nn : Bool} {ng ps : Nat} {S : Int} (h : AS L i inf cl nn ng ps S) (hc : classOf (lb L i) = 5) : AS L (i + 1) inf cl true ng ps S := by
  obtain ⟨a, b, c, d, e, f⟩ := h
  unfold AS infTo clashTo anyTo cntTo sumTo mZer pZer isInf isNan isZer uV
  rw [hc]
  simp [← a, ← b, ← d, ← e, ← f]
  exact ⟨d, e⟩
theorem AS.inf {L : List Nat} {i : Nat} {inf : Int} {cl nn : Bool} {ng ps : Nat} {S : Int} (h : AS L i inf cl nn ng ps S) (hc : classOf (lb L i) = 4) : AS L (i + 1) (lb L i) (cl || (decide (inf ≠ 0) && decide (inf ≠ lb L i))) nn ng ps S := by
  obtain ⟨a, b, c, d, e, f⟩ := h
  subst a b c d e f
  unfold AS
  rw [show infTo L (i + 1) = if isInf (lb L i) then lb L i else infTo L i from rfl, show clashTo L (i + 1) = if isInf (lb L i) then clashTo L i || (decide (infTo L i ≠ 0) && decide (infTo L i ≠ lb L i)) else clashTo L i from rfl,
    show anyTo isNan L (i + 1) = (anyTo isNan L i || isNan (lb L i)) from rfl, show cntTo mZer L (i + 1) = cntTo mZer L i + (if mZer (lb L i) then 1 else 0) from rfl, show cntTo pZer L (i + 1) = cntTo pZer L i + (if pZer (lb L i) then 1 else 0) from rfl, show sumTo L (i + 1) = sumTo L i + uV (lb L i) from rfl]
  unfold mZer pZer isInf isNan isZer uV
  rw [hc]
  simp
theorem AS.zer {L : List Nat} {i : Nat} {inf : Int} {cl nn : Bool} {ng ps : Nat} {S : Int} (h : AS L i inf cl nn ng ps S) (hc : classOf (lb L i) = 1) (hu : uV (lb L i) = 0) :
    AS L (i + 1) inf cl nn (ng + (if negB (lb L i) then 1 else 0)) (ps + (if negB (lb L i) then 0 else 1)) S := by
  obtain ⟨a, b, c, d, e, f⟩ := h
  subst a b c d e f
  unfold AS
  rw [show infTo L (i + 1) = if isInf (lb L i) then lb L i else infTo L i from rfl, show clashTo L (i + 1) = if isInf (lb L i) then clashTo L i || (decide (infTo L i ≠ 0) && decide (infTo L i ≠ lb L i)) else clashTo L i from rfl,
    show anyTo isNan L (i + 1) = (anyTo isNan L i || isNan (lb L i)) from rfl, show cntTo mZer L (i + 1) = cntTo mZer L i + (if mZer (lb L i) then 1 else 0) from rfl, show cntTo pZer L (i + 1) = cntTo pZer L i + (if pZer (lb L i) then 1 else 0) from rfl, show sumTo L (i + 1) = sumTo L i + uV (lb L i) from rfl]
  rw [hu]
  unfold mZer pZer isInf isNan isZer
  rw [hc]
  cases negB (lb L i) <;> simp
theorem AS.val {L : List Nat} {i : Nat} {inf : Int} {cl nn : Bool} {ng ps : Nat} {S : Int} (h : AS L i inf cl nn ng ps S) (h5 : classOf (lb L i) ≠ 5) (h4 : classOf (lb L i) ≠ 4) (h1 : classOf (lb L i) ≠ 1) :
    AS L (i + 1) inf cl nn ng ps (S + uV (lb L i)) := by
  obtain ⟨a, b, c, d, e, f⟩ := h
  subst a b c d e f
  unfold AS
  rw [show infTo L (i + 1) = if isInf (lb L i) then lb L i else infTo L i from rfl, show clashTo L (i + 1) = if isInf (lb L i) then clashTo L i || (decide (infTo L i ≠ 0) && decide (infTo L i ≠ lb L i)) else clashTo L i from rfl,
    show anyTo isNan L (i + 1) = (anyTo isNan L i || isNan (lb L i)) from rfl, show cntTo mZer L (i + 1) = cntTo mZer L i + (if mZer (lb L i) then 1 else 0) from rfl, show cntTo pZer L (i + 1) = cntTo pZer L i + (if pZer (lb L i) then 1 else 0) from rfl, show sumTo L (i + 1) = sumTo L i + uV (lb L i) from rfl]
  unfold mZer pZer isInf isNan isZer
  have e5 : (classOf (lb L i) == 5) = false := beq_eq_false_iff_ne.2 h5
  have e4 : (classOf (lb L i) == 4) = false := beq_eq_false_iff_ne.2 h4
  have e1 : (classOf (lb L i) == 1) = false := beq_eq_false_iff_ne.2 h1
  rw [e5, e4, e1]
  simp
section
variable {L : List Nat} {inf : Int} {cl nn : Bool} {ng ps : Nat} {S : Int} {mode : Int}
theorem AS.sNan (hL : ∀ j, lb L j < 18446744073709551616) (h : AS L L.length inf cl nn ng ps S) : Go.Ulp.sNan L = (nn || cl) := by
  obtain ⟨a, b, c, d, e, f⟩ := h
  unfold Go.Ulp.sNan
  rw [c, b]
  rcases inf_state L hL L.length with ⟨x, y, z, t⟩ | ⟨x, y, t⟩ | ⟨x, y, t⟩
  · rw [t, y, z]; rfl
  · rw [t, y]; simp
  · rw [t, y]; simp
theorem AS.sInf (hL : ∀ j, lb L j < 18446744073709551616) (h : AS L L.length inf cl nn ng ps S) : Go.Ulp.sInf L = decide (inf ≠ 0) := by
  obtain ⟨a, b, c, d, e, f⟩ := h
  unfold Go.Ulp.sInf
  rw [a]
  rcases inf_state L hL L.length with ⟨x, y, z, t⟩ | ⟨x, y, t⟩ | ⟨x, y, t⟩
  · rw [x, y, z]; rfl
  · rw [x, y]; simp
  · rw [x, y]; simp
theorem AS.infX (hL : ∀ j, lb L j < 18446744073709551616) (h : AS L L.length inf cl nn ng ps S) (hc : cl = false) (hi : inf ≠ 0) : inf = if anyTo mInf L L.length then 18442240474082181120 else 9218868437227405312 := by
  obtain ⟨a, b, c, d, e, f⟩ := h
  rcases inf_state L hL L.length with ⟨x, y, z, t⟩ | ⟨x, y, t⟩ | ⟨x, y, t⟩
  · exact absurd (a.trans x) hi
  · rw [← t, ← b, hc]; rw [a, x]; rfl
  · rw [y]; rw [a, x]; rfl
theorem AS.ansNan (hL : ∀ j, lb L j < 18446744073709551616) (h : AS L L.length inf cl nn ng ps S) (hb : (nn || cl) = true) : sumX L mode = 9221120237041090560 ∧ sumC L mode = false := by
  unfold sumX sumC; rw [h.sNan hL, hb]; exact ⟨rfl, rfl⟩
theorem AS.ansInf (hL : ∀ j, lb L j < 18446744073709551616) (h : AS L L.length inf cl nn ng ps S) (hb : (nn || cl) = false) (hi : inf ≠ 0) : sumX L mode = inf ∧ sumC L mode = false := by
  have hc : cl = false := by cases cl; rfl; rw [Bool.or_true] at hb; cases hb
  unfold sumX sumC; rw [h.sNan hL, hb, h.sInf hL, decide_eq_true hi]; exact ⟨(h.infX hL hc hi).symm, rfl⟩
theorem AS.ansNum (hL : ∀ j, lb L j < 18446744073709551616) (h : AS L L.length inf cl nn ng ps S) (hb : (nn || cl) = false) (hi : inf = 0) (hS : S ≠ 0) : sumX L mode = rX (nrm S (-1074)) mode ∧ sumC L mode = rC (nrm S (-1074)) mode := by
  have e := h.2.2.2.2.2
  unfold sumX sumC sDy; rw [h.sNan hL, hb, h.sInf hL, decide_eq_false (by simpa using hi), ← e, if_pos hS, if_pos hS]; exact ⟨rfl, rfl⟩
theorem AS.ansPos (hL : ∀ j, lb L j < 18446744073709551616) (h : AS L L.length inf cl nn ng ps S) (hb : (nn || cl) = false) (hi : inf = 0) (hS : S = 0) (hp : ps = L.length) : sumX L mode = 0 ∧ sumC L mode = false := by
  have e := h.2.2.2.2.2
  have e2 := h.2.2.2.2.1
  unfold sumX sumC; rw [h.sNan hL, hb, h.sInf hL, decide_eq_false (by simpa using hi), ← e, if_neg (not_not_intro hS), if_neg (not_not_intro hS), ← e2, if_pos hp]; exact ⟨rfl, rfl⟩
theorem AS.ansNeg (hL : ∀ j, lb L j < 18446744073709551616) (h : AS L L.length inf cl nn ng ps S) (hb : (nn || cl) = false) (hi : inf = 0) (hS : S = 0) (hp : ps ≠ L.length) (hn : ng = L.length) : sumX L mode = 9223372036854775808 ∧ sumC L mode = false := by
  have e := h.2.2.2.2.2
  have e2 := h.2.2.2.2.1
  have e3 := h.2.2.2.1
  unfold sumX sumC; rw [h.sNan hL, hb, h.sInf hL, decide_eq_false (by simpa using hi), ← e, if_neg (not_not_intro hS), if_neg (not_not_intro hS), ← e2, if_neg hp, ← e3, if_pos hn]; exact ⟨rfl, rfl⟩
theorem AS.ansNone (hL : ∀ j, lb L j < 18446744073709551616) (h : AS L L.length inf cl nn ng ps S) (hb : (nn || cl) = false) (hi : inf = 0) (hS : S = 0) (hp : ps ≠ L.length) (hn : ng ≠ L.length) : sumX L mode = sgb (mode == 2) ∧ sumC L mode = false := by
  have e := h.2.2.2.2.2
  have e2 := h.2.2.2.2.1
  have e3 := h.2.2.2.1
  unfold sumX sumC sgb; rw [h.sNan hL, hb, h.sInf hL, decide_eq_false (by simpa using hi), ← e, if_neg (not_not_intro hS), if_neg (not_not_intro hS), ← e2, if_neg hp, ← e3, if_neg hn]
  refine ⟨?_, rfl⟩
  by_cases m : mode = 2
  · rw [if_pos m, beq_iff_eq.2 m]; rfl
  · rw [if_neg m, beq_eq_false_iff_ne.2 m]; rfl
end
theorem sumD_bd (A : Nat) (hA : A = 2298) (L : List Nat) (hL : ∀ j, lb L j < 18446744073709551616) (i : Nat) (hi : i ≤ 200) : (nrm (sumTo L i) (-1074)).1.natAbs < 2 ^ A ∧ -1074 ≤ (nrm (sumTo L i) (-1074)).2 ∧ (nrm (sumTo L i) (-1074)).2 ≤ 4000 := by
  have h := sumTo_bd 2098 (Nat.le_refl _) L hL i
  have h2 := Nat.lt_of_lt_of_le h (Nat.pow_le_pow_right (by omega) (show 2098 + i ≤ A by omega))
  obtain ⟨k1, k2⟩ := nrm_bd (sumTo L i) (-1074) A h2
  exact ⟨k1, by rcases k2 with k | k <;> omega, by rcases k2 with k | k <;> omega⟩
end Go.Ulp
namespace Go.Proofs.YtpgmchpdpgahfaaGreatDoor
open Go.RowKit Go.Ulp
set_option linter.unusedVariables false
set_option linter.unusedSimpArgs false
set_option maxHeartbeats 2000000
set_option maxRecDepth 100000
theorem zeroS_any (neg : Bool) (w : World) : Calls Tryz.prog 51 #[.bool neg] w fun e w' => e = .returned (.int .u64 (sgb neg)) ∧ w = w' := by
  cases neg
  · go_enter Tryz.func51, Tryz.ntmps51
    go_wp2_with fail
    go_ret
    exact ⟨rfl, rfl⟩
  · go_enter Tryz.func51, Tryz.ntmps51
    go_wp2_with fail
    go_ret
    exact ⟨rfl, rfl⟩
theorem sumAll_any (ao : Option Addr) (cap : Nat) (L : List Nat) (mode : Int) (w : World) (h : Ns .u64 w ao cap L) (hL : ∀ j, lb L j < 18446744073709551616) (hlen : L.length ≤ 200) (hT : Tab 0 w) :
    Calls Tryz.prog 26 #[.slice ao L.length cap, .int .i64 mode] w (RetX w (sumX L mode) (sumC L mode)) := by
  have hNL := h
  obtain ⟨h1, h2, h3⟩ := h
  unfold maxLen at h2
  obtain ⟨N, hN⟩ : ∃ N, N = L.length := ⟨_, rfl⟩
  have CL := hid (fun j w => class_any (lb L j) (lb_nonneg _ _) (hL j) w)
  have VA := hid (fun j w t => value_any (lb L j) (lb_nonneg _ _) (hL j) w t)
  have HL := hid hL
  have HL0 := hid hL
  have FV := hid (fun j (h : classOf (lb L j) < 4) => fv_uV (lb L j) (lb_nonneg _ _) (hL j) h)
  have UZ := hid (fun j (h : classOf (lb L j) = 1) => uV_zer (lb L j) (lb_nonneg _ _) (hL j) h)
  have ZB := hid (fun j (h : classOf (lb L j) = 1) => zer_bits (lb L j) (lb_nonneg _ _) (hL j) h)
  have CB := hid (fun j => class_bd (lb L j))
  obtain ⟨A, hA⟩ : ∃ A : Nat, A = 2298 := ⟨_, rfl⟩
  have SB := hid (fun i hi => sumD_bd A hA L hL i hi)
  obtain ⟨K, hK⟩ : ∃ K : Nat, K = 100 := ⟨_, rfl⟩
  have LB := hid (fun (M : Nat) (h : M < 2 ^ A) => (limbs_le_bits M K).2 (Nat.lt_of_lt_of_le h (Nat.pow_le_pow_right (by omega) (by omega))))
  have HT := hid hT
  have HNL := hid hNL
  have yb0 := below_alloc w (.cells #[.bool false, .slice none 0 0, .int .i64 0] 43)
  have zR0 : DV 43 (w.alloc (.cells #[.bool false, .slice none 0 0, .int .i64 0] 43)) w.heap.size (nrm 0 (-1074)) := ⟨none, 0, QL.made rfl, Ns.nil⟩
  clear hL hT hA hNL
  go_enter Tryz.func26, Tryz.ntmps26
  go_wp2_with fail
  go_loopw [6, 7, 8, 9, 10, 13, 16] (fun s6 s7 s8 s9 s10 _ s16 wr => ∃ (i : Nat) (inf : Int) (cl nn : Bool) (ng ps : Nat) (S : Int), s16 = .int .i64 (i : Int) ∧ i ≤ L.length ∧ s6 = .int .u64 inf ∧ s7 = .bool cl ∧ s8 = .bool nn ∧ s9 = .int .i64 (ng : Int) ∧ s10 = .int .i64 (ps : Int) ∧ AS L i inf cl nn ng ps S ∧ DV 43 wr w.heap.size (nrm S (-1074)) ∧ Below w.heap.size w wr) (fun _ _ _ _ _ _ s16 _ => (L.length - (intOf s16).toNat))
  case atStart => exact ⟨0, 0, false, false, 0, 0, 0, rfl, by omega, rfl, rfl, rfl, rfl, rfl, AS.start L, zR0, yb0⟩
  case round =>
    obtain ⟨i, inf, cl, nn, ng, ps, S, rfl, hi, rfl, rfl, rfl, rfl, rfl, hAS, hDV, yb⟩ := hrel
    have HAS := hid hAS
    have HDV := hid hDV
    have c1 := cnt_le mZer L i
    have c2 := cnt_le pZer L i
    have n1 : ng ≤ i := by rw [hAS.2.2.2.1]; exact c1
    have n2 : ps ≤ i := by rw [hAS.2.2.2.2.1]; exact c2
    have HS := hid hAS.2.2.2.2.2
    clear hAS hDV c1 c2 h3 hN zR0 yb0
    by_cases hi2 : (i : Int) < (L.length : Int)
    · obtain ⟨b0, o0, rfl, hc0⟩ := HNL.out.2.2 (by omega)
      have k0 := (yb.cell (p := ⟨b0, o0 + i, none⟩) (World.block_lt_of_cell? _ _ (hc0 i (by omega)))).trans (hc0 i (by omega))
      have C0 := hid (CL.out i)
      have V0 := hid (VA.out i)
      have FV0 := hid (FV.out i)
      have UZ0 := hid (UZ.out i)
      have ZB0 := hid (ZB.out i)
      have cb := CB.out i
      have hx0 : 0 ≤ lb L i := lb_nonneg L i
      have SB0 := hid (SB.out i (by omega))
      obtain ⟨x, hx⟩ : ∃ x, x = lb L i := ⟨_, rfl⟩
      have HX := hid hx
      rw [← hx] at k0 C0 V0 FV0 UZ0 ZB0 cb hx0
      clear hx hc0 CL VA FV UZ ZB CB SB HL
      by_cases h5 : classOf x = 5
      · have H5 := hid h5
        rw [h5] at C0
        clear h5 cb
        go_wp2_with (go_at_call 5; (with_reducible refine (C0.out _).mono ?_); rintro en w1 ⟨rfl, rfl⟩)
        go_roundw
        case rel => exact ⟨i + 1, inf, cl, true, ng, ps, S, by go_num, by omega, rfl, rfl, rfl, rfl, rfl, HAS.out.nan (by rw [← HX.out]; exact H5.out), HDV.out, yb⟩
        case measure => simp [intOf]; omega
      by_cases h4 : classOf x = 4
      · have H4 := hid h4
        have HCL := hid (HAS.out.inf (by rw [← HX.out]; exact h4))
        rw [h4] at C0
        clear h4 h5 cb
        cases cl
        · by_cases hz : inf = 0
          · have hz2 : (inf != 0) = false := by rw [hz]; rfl
            have HZ := hid hz
            clear hz
            go_wp2_with (go_at_call 5; (with_reducible refine (C0.out _).mono ?_); rintro en w1 ⟨rfl, rfl⟩)
            go_roundw
            case rel => exact ⟨i + 1, x, false, nn, ng, ps, S, by go_num, by omega, rfl, rfl, rfl, rfl, rfl, by
              have h := HCL.out
              rw [← HX.out, HZ.out] at h
              simpa using h, HDV.out, yb⟩
            case measure => simp [intOf]; omega
          · have hz2 : (inf != 0) = true := bne_iff_ne.2 hz
            have HZ := hid hz
            clear hz
            by_cases hq : inf = x
            · have hq2 : (inf != x) = false := by rw [hq]; simp
              have HQ := hid hq
              clear hq
              go_wp2_with (go_at_call 5; (with_reducible refine (C0.out _).mono ?_); rintro en w1 ⟨rfl, rfl⟩)
              go_roundw
              case rel => exact ⟨i + 1, x, false, nn, ng, ps, S, by go_num, by omega, rfl, rfl, rfl, rfl, rfl, by
                have h := HCL.out
                rw [← HX.out, decide_eq_false (not_not_intro HQ.out), Bool.and_false, Bool.or_false] at h
                exact h, HDV.out, yb⟩
              case measure => simp [intOf]; omega
            · have hq2 : (inf != x) = true := bne_iff_ne.2 hq
              have HQ := hid hq
              clear hq
              go_wp2_with (go_at_call 5; (with_reducible refine (C0.out _).mono ?_); rintro en w1 ⟨rfl, rfl⟩)
              go_roundw
              case rel => exact ⟨i + 1, x, true, nn, ng, ps, S, by go_num, by omega, rfl, rfl, rfl, rfl, rfl, by
                have h := HCL.out
                rw [← HX.out, decide_eq_true HQ.out, decide_eq_true HZ.out] at h
                exact h, HDV.out, yb⟩
              case measure => simp [intOf]; omega
        · go_wp2_with (go_at_call 5; (with_reducible refine (C0.out _).mono ?_); rintro en w1 ⟨rfl, rfl⟩)
          go_roundw
          case rel => exact ⟨i + 1, x, true, nn, ng, ps, S, by go_num, by omega, rfl, rfl, rfl, rfl, rfl, by
            have h := HCL.out
            rw [← HX.out, Bool.true_or] at h
            exact h, HDV.out, yb⟩
          case measure => simp [intOf]; omega
      by_cases h1 : classOf x = 1
      · have HZ := hid (HAS.out.zer (by rw [← HX.out]; exact h1) (by rw [← HX.out]; exact UZ0.out h1))
        have hzb := ZB0.out h1
        rw [h1] at C0
        rw [← HX.out] at HZ
        clear h1 h4 h5 cb
        cases hn : negB x
        · have HN := hid hn
          rw [hn, if_neg (by simp)] at hzb
          clear hn
          subst hzb
          go_wp2_with (go_at_call 5; (with_reducible refine (C0.out _).mono ?_); rintro en w1 ⟨rfl, rfl⟩)
          go_roundw
          case rel => exact ⟨i + 1, inf, cl, nn, ng, ps + 1, S, by go_num, by omega, rfl, rfl, rfl, rfl, by go_num, by
            have h := HZ.out
            rw [HN.out] at h
            exact h, HDV.out, yb⟩
          case measure => simp [intOf]; omega
        · have HN := hid hn
          rw [hn, if_pos rfl] at hzb
          clear hn
          subst hzb
          go_wp2_with (go_at_call 5; (with_reducible refine (C0.out _).mono ?_); rintro en w1 ⟨rfl, rfl⟩)
          go_roundw
          case rel => exact ⟨i + 1, inf, cl, nn, ng + 1, ps, S, by go_num, by omega, rfl, rfl, rfl, by go_num, rfl, by
            have h := HZ.out
            rw [HN.out] at h
            exact h, HDV.out, yb⟩
          case measure => simp [intOf]; omega
      · have HV := hid (HAS.out.val (by rw [← HX.out]; exact h5) (by rw [← HX.out]; exact h4) (by rw [← HX.out]; exact h1))
        have hlt : classOf x < 4 := by omega
        have hfv := FV0.out hlt
        rw [← HX.out] at HV
        obtain ⟨c, hc⟩ : ∃ c, c = classOf x := ⟨_, rfl⟩
        rw [← hc] at C0 h5 h4 h1
        have e5 : (c == 5) = false := beq_eq_false_iff_ne.2 h5
        have e4 : (c == 4) = false := beq_eq_false_iff_ne.2 h4
        have e1 : (c == 1) = false := beq_eq_false_iff_ne.2 h1
        have hbd := SB0.out
        rw [← HS.out] at hbd
        have hfb := fv_bd x hx0 (by rw [HX.out]; exact HL0.out i)
        have l1 := LB.out _ hbd.1
        have l2 : (limbs (fv x).1.natAbs).length ≤ 2 := (limbs_le_bits _ 2).2 (Nat.lt_of_lt_of_le hfb.2.1 (Nat.pow_le_pow_right (by omega) (by omega)))
        have PL := hid (fun v u w h0 h1 t => plusD_any v u (nrm S (-1074)) (fv x) w h0 h1 (by omega) (by omega) ⟨by omega, by omega⟩ ⟨by omega, by omega⟩ t)
        have HSD := hid (show addD (nrm S (-1074)) (fv x) = nrm (S + uV x) (-1074) by rw [hfv, addD_step])
        rw [HSD.out] at PL
        obtain ⟨am, cm, zD, hND⟩ := HDV.out
        have HVD := hid (fun w' (hb : Below wr.heap.size wr w') => (show VD w' (nrm S (-1074)) (.agg #[.bool (decide ((nrm S (-1074)).1 < 0)), .slice am (limbs (nrm S (-1074)).1.natAbs).length cm, .int .i64 (nrm S (-1074)).2]) from ⟨am, cm, rfl, hND.below hb⟩))
        generalize nrm S (-1074) = D at *
        clear hc h5 h4 h1 hlt hfv hbd hfb l1 l2 cb HDV hND FV0 UZ0 ZB0 LB SB0
        go_upto_region 8 with (go_at_call 5; (with_reducible refine (C0.out _).mono ?_); rintro en w1 ⟨rfl, rfl⟩)
        refine wp_region_grow 4 [22, 23, 24, 25] [Fact.is (.agg #[.bool (decide (D.1 < 0)), .slice am (limbs D.1.natAbs).length cm, .int .i64 D.2]), Fact.is (.int .u64 x), Fact.vd (fv x), Fact.vd (nrm (S + uV x) (-1074))] (by kernel_rfl) (by kernel_rfl) ⟨?o0, ?o1, ?o2, ?o3, trivial⟩ ?after
        case o0 => (refine StepOK.plain rfl ?_; intro ρ w1 R hρ hb hp hR; have e11 : ρ (.tmp 11) = .pointer (some ⟨w.heap.size, 0, none⟩) := hρ.tmp 11 rfl; obtain ⟨⟨j0, j1, -, -, -⟩, j2, -⟩ := zD.below hb; have hcon := hρ.con; have hfn := hρ.fn; clear hρ hp; unfold OpRun; go_simp; exact hR _ _ (Below.refl _ _) rfl)
        case o1 => (refine StepOK.plain rfl ?_; intro ρ w1 R hρ hb hp hR; have e13 : ρ (.tmp 13) = .int .u64 x := hρ.tmp 13 rfl; have hcon := hρ.con; have hfn := hρ.fn; clear hρ hp; unfold OpRun; go_simp; exact hR _ _ (Below.refl _ _) rfl)
        case o2 => (refine StepOK.plain rfl ?_; intro ρ w1 R hρ hb hp hR; have e23 : ρ (.tmp 23) = _ := hp 1 23 rfl rfl; have hcon := hρ.con; have hfn := hρ.fn; clear hρ hp; unfold OpRun; go_simp; (refine (V0.out _ (HT.out.below (below_trans yb hb))).mono ?_; rintro e wn ⟨v9, rfl, hv9, hbn⟩; exact ⟨_, rfl, hR _ _ hbn hv9⟩))
        case o3 => (refine StepOK.plain rfl ?_; intro ρ w1 R hρ hb hp hR; have e22 : ρ (.tmp 22) = _ := hp 0 22 rfl rfl; have f24 := hp 2 24 rfl rfl; have hcon := hρ.con; have hfn := hρ.fn; clear hρ hp; unfold OpRun; go_simp; (refine (PL.out _ _ _ (HVD.out _ hb) f24 (HT.out.below (below_trans yb hb))).mono ?_; rintro e wn ⟨v9, rfl, hv9, hbn⟩; exact ⟨_, rfl, hR _ _ hbn hv9⟩))
        case after =>
          intro u wn hb hf
          have f25 := hf 3 25 (by omega) rfl
          clear hf
          simp only [putAll, Act.put, List.setIfInBounds_toArray, List.set_cons_zero, List.set_cons_succ, List.drop_succ_cons, List.drop_zero, List.drop_nil]
          obtain ⟨am2, cm2, e25, hN2⟩ := f25
          rw [e25]
          have zD2 := zD.below hb
          have yb2 := below_trans yb hb
          obtain ⟨⟨j0, j1, g0, g1, hs2⟩, j2, g2⟩ := id zD2
          clear e25
          go_wp2_with fail
          go_roundw
          case rel => exact ⟨i + 1, inf, cl, nn, ng, ps, S + uV x, by go_num, by omega, rfl, rfl, rfl, rfl, rfl, HV.out, DV.put zD2 hN2 (by intro x h; cases h), Go.Ulp.Below.put3 yb2 (Nat.le_refl _) _ _ _⟩
          case measure => simp [intOf]; omega
    · have hie : i = L.length := by omega
      subst hie
      have HA1 := hid (fun hb => HAS.out.ansNan (mode := mode) HL.out hb)
      have HA2 := hid (fun hb hi => HAS.out.ansInf (mode := mode) HL.out hb hi)
      have HA3 := hid (fun hb hi hS => HAS.out.ansNum (mode := mode) HL.out hb hi hS)
      have HA4 := hid (fun hb hi hS hp => HAS.out.ansPos (mode := mode) HL.out hb hi hS hp)
      have HA5 := hid (fun hb hi hS hp hn => HAS.out.ansNeg (mode := mode) HL.out hb hi hS hp hn)
      have HA6 := hid (fun hb hi hS hp hn => HAS.out.ansNone (mode := mode) HL.out hb hi hS hp hn)
      have SB0 := hid (SB.out L.length hlen)
      clear HAS CL VA FV UZ ZB CB SB HL HNL
      cases nn
      · cases cl
        · by_cases hz : inf = 0
          · subst hz
            by_cases hS : S = 0
            · subst hS
              have hD := HDV.out
              rw [nrm_zero] at hD
              obtain ⟨am, cm, zD⟩ := hD.none_form
              obtain ⟨⟨j0, j1, -, -, -⟩, j2, -⟩ := id zD
              clear hD
              by_cases hp : ps = L.length
              · have HP := hid (HA4.out rfl rfl rfl hp)
                subst hp
                clear HA1 HA2 HA3 HA4 HA5 HA6
                go_wp2_with fail
                go_ret2
                exact ⟨ret2 HP.out.1.symm HP.out.2.symm, yb⟩
              · have hp2 : ((ps : Int) == (L.length : Int)) = false := beq_eq_false_iff_ne.2 (by omega)
                by_cases hq : ng = L.length
                · have HP := hid (HA5.out rfl rfl rfl hp hq)
                  subst hq
                  clear HA1 HA2 HA3 HA4 HA5 HA6 hp
                  go_wp2_with fail
                  go_ret2
                  exact ⟨ret2 HP.out.1.symm HP.out.2.symm, yb⟩
                · have hq2 : ((ng : Int) == (L.length : Int)) = false := beq_eq_false_iff_ne.2 (by omega)
                  have HP := hid (HA6.out rfl rfl rfl hp hq)
                  clear HA1 HA2 HA3 HA4 HA5 HA6 hp hq
                  go_wp2_with (go_at_call 51; (with_reducible refine (zeroS_any _ _).mono ?_); rintro en w1 ⟨rfl, rfl⟩)
                  go_ret2
                  exact ⟨ret2 HP.out.1.symm HP.out.2.symm, yb⟩
            · have HP := hid (HA3.out rfl rfl hS)
              have hbd := SB0.out
              rw [← HS.out] at hbd
              have l1 := LB.out _ hbd.1
              have NU := hid (fun v w h => numberD_any v (nrm S (-1074)) mode w h (by omega) ⟨by omega, by omega⟩ (nrm_isN _ _))
              have hpos : 0 < (limbs (nrm S (-1074)).1.natAbs).length := by
                have h9 := dy_len (nrm S (-1074))
                rw [nrm_zero_iff] at h9
                omega
              obtain ⟨am, cm, zD, hND⟩ := HDV.out
              have HVD := hid (show VD wr (nrm S (-1074)) (.agg #[.bool (decide ((nrm S (-1074)).1 < 0)), .slice am (limbs (nrm S (-1074)).1.natAbs).length cm, .int .i64 (nrm S (-1074)).2]) from ⟨am, cm, rfl, hND⟩)
              obtain ⟨⟨j0, j1, -, -, -⟩, j2, -⟩ := id zD
              generalize nrm S (-1074) = D at *
              generalize (limbs D.1.natAbs).length = ll at *
              clear HA1 HA2 HA3 HA4 HA5 HA6 hbd l1 hS HDV hND LB SB0
              go_wp2_with (go_at_call 16; (with_reducible refine (NU.out _ _ HVD.out).mono ?_); rintro en w1 ⟨rfl, hb1⟩)
              go_ret2
              exact ⟨ret2 HP.out.1.symm HP.out.2.symm, below_trans yb hb1⟩
          · have hz2 : (inf != 0) = true := bne_iff_ne.2 hz
            have HP := hid (HA2.out rfl hz)
            clear HA1 HA2 HA3 HA4 HA5 HA6 hz
            go_wp2_with fail
            go_ret2
            exact ⟨ret2 HP.out.1.symm HP.out.2.symm, yb⟩
        · have HP := hid (HA1.out rfl)
          clear HA1 HA2 HA3 HA4 HA5 HA6
          go_wp2_with fail
          go_ret2
          exact ⟨ret2 HP.out.1.symm HP.out.2.symm, yb⟩
      · have HP := hid (HA1.out rfl)
        clear HA1 HA2 HA3 HA4 HA5 HA6
        go_wp2_with fail
        go_ret2
        exact ⟨ret2 HP.out.1.symm HP.out.2.symm, yb⟩
end Go.Proofs.YtpgmchpdpgahfaaGreatDoor

set_option linter.unusedVariables false
set_option linter.unusedSimpArgs false
namespace Go.Ulp
open Go.RowKit
/-- a variable of type Q -/
def QV (t e : TypeId) (w : World) (g : Nat) (D : Dy) (A T : Nat) : Prop :=
  ∃ (x : Int) (n : Nat) (ao : Option Addr) (cap : Nat), QL t w g (zneg x) (.slice ao (zl x).length cap) (n : Int) ∧ Nz e w ao cap (zl x) ∧ nrm x (-(n : Int)) = D ∧ x.natAbs < 2 ^ A ∧ n ≤ T
theorem QV.below {t e : TypeId} {w w' : World} {g : Nat} {D : Dy} {A T : Nat} (h : QV t e w g D A T) (hb : Below w.heap.size w w') : QV t e w' g D A T := by
  obtain ⟨x, n, ao, cap, h1, h2, h3⟩ := h
  exact ⟨x, n, ao, cap, h1.below hb, h2.below hb, h3⟩
theorem QV.zero {t e : TypeId} {w : World} (A T : Nat) : QV t e (w.alloc (.cells #[.bool false, .slice none 0 0, .int .i64 0] t)) w.heap.size (0, 0) A T :=
  ⟨0, 0, none, 0, QL.made rfl, Nz.nil' none 0 (by unfold maxLen; omega), nrm_zero _, Nat.two_pow_pos A, Nat.zero_le _⟩
/-- what the loop holds -/
def BS (L : List Nat) (i : Nat) (pl mi nn : Bool) (zs sg : Nat) (S : Int) : Prop :=
  pl = anyTo pInf L i ∧ mi = anyTo mInf L i ∧ nn = anyTo isNan L i ∧ zs = cntTo isZer L i ∧ sg = cntTo mZer L i ∧ S = sumTo L i
theorem BS.start (L : List Nat) : BS L 0 false false false 0 0 0 := ⟨rfl, rfl, rfl, rfl, rfl, rfl⟩
theorem BS.step {L : List Nat} {i : Nat} {pl mi nn : Bool} {zs sg : Nat} {S : Int} (h : BS L i pl mi nn zs sg S) :
    BS L (i + 1) (pl || pInf (lb L i)) (mi || mInf (lb L i)) (nn || isNan (lb L i)) (zs + (if isZer (lb L i) then 1 else 0)) (sg + (if mZer (lb L i) then 1 else 0)) (S + uV (lb L i)) := by
  obtain ⟨a, b, c, d, e, f⟩ := h
  subst a b c d e f
  exact ⟨rfl, rfl, rfl, rfl, rfl, rfl⟩
section
variable {L : List Nat} {pl mi nn : Bool} {zs sg : Nat} {S : Int} {mode : Int}
theorem BS.ansNan (h : BS L L.length pl mi nn zs sg S) (hb : (nn || (pl && mi)) = true) : sumX L mode = 9221120237041090560 ∧ sumC L mode = false := by
  obtain ⟨a, b, c, d, e, f⟩ := h
  have k : sNan L = true := by unfold sNan; rw [← a, ← b, ← c]; exact hb
  unfold sumX sumC; rw [k]; exact ⟨rfl, rfl⟩
theorem BS.ansInf (h : BS L L.length pl mi nn zs sg S) (hb : (nn || (pl && mi)) = false) (hi : (pl || mi) = true) : sumX L mode = 9218868437227405312 + sgb mi ∧ sumC L mode = false := by
  obtain ⟨a, b, c, d, e, f⟩ := h
  have k : sNan L = false := by unfold sNan; rw [← a, ← b, ← c]; exact hb
  have k2 : sInf L = true := by unfold sInf; rw [← a, ← b]; exact hi
  unfold sumX sumC; rw [k, k2, ← b]
  refine ⟨?_, rfl⟩
  cases mi <;> rfl
theorem BS.none (h : BS L L.length pl mi nn zs sg S) (hb : (nn || (pl && mi)) = false) (hi : (pl || mi) = false) : sNan L = false ∧ sInf L = false := by
  obtain ⟨a, b, c, d, e, f⟩ := h
  exact ⟨by unfold sNan; rw [← a, ← b, ← c]; exact hb, by unfold sInf; rw [← a, ← b]; exact hi⟩
theorem BS.ansNum (h : BS L L.length pl mi nn zs sg S) (hb : (nn || (pl && mi)) = false) (hi : (pl || mi) = false) (hS : S ≠ 0) : sumX L mode = rX (nrm S (-1074)) mode ∧ sumC L mode = rC (nrm S (-1074)) mode := by
  obtain ⟨k, k2⟩ := h.none hb hi
  have e := h.2.2.2.2.2
  unfold sumX sumC sDy; rw [k, k2, ← e, if_pos hS, if_pos hS]; exact ⟨rfl, rfl⟩
end
end Go.Ulp
namespace Go.Proofs.YtpgmchpdpgahfaaGreatDoor
open Go.RowKit Go.Ulp
set_option linter.unusedVariables false
set_option linter.unusedSimpArgs false
set_option maxHeartbeats 2000000
set_option maxRecDepth 100000
end Go.Proofs.YtpgmchpdpgahfaaGreatDoor

set_option linter.unusedVariables false
set_option linter.unusedSimpArgs false
namespace Go.Ulp
open Go.RowKit
/-- what is told of a mode -/
def mdX (mode x : Int) : Int := if knownB mode = true then x else 0
def mdC (mode : Int) (c : Bool) : Bool := if knownB mode = true then c else false
def mdE (mode : Int) : Int := if knownB mode = true then 0 else 1
theorem md_yes {mode : Int} (h : knownB mode = true) (x : Int) (c : Bool) : mdX mode x = x ∧ mdC mode c = c ∧ mdE mode = 0 := by
  unfold mdX mdC mdE; rw [if_pos h, if_pos h, if_pos h]; exact ⟨rfl, rfl, rfl⟩
theorem md_no {mode : Int} (h : knownB mode = false) (x : Int) (c : Bool) : mdX mode x = 0 ∧ mdC mode c = false ∧ mdE mode = 1 := by
  unfold mdX mdC mdE; rw [h]; exact ⟨rfl, rfl, rfl⟩
/-- a new list of two numbers -/
theorem ns2 (w : World) (t : TypeId) (a b : Nat) : Ns .u64 (w.alloc (.cells #[.int .u64 (a : Int), .int .u64 (b : Int)] t)) (some ⟨w.heap.size, 0, none⟩) 2 [a, b] := by
  refine ⟨by simp, by unfold maxLen; omega, fun _ => ⟨w.heap.size, 0, rfl, fun i hi => ?_⟩⟩
  have hi6 : i < 2 := by simpa using hi
  obtain rfl | rfl : i = 0 ∨ i = 1 := by omega
  all_goals (rw [World.cell?_alloc_at (hn := rfl)]; rfl)
theorem two_lt (a b : Nat) (ha : a < 18446744073709551616) (hb : b < 18446744073709551616) : ∀ j, lb [a, b] j < 18446744073709551616 := by
  intro j
  by_cases hj : j < 2
  · obtain rfl | rfl : j = 0 ∨ j = 1 := by omega
    · show (a : Int) < _; omega
    · show (b : Int) < _; omega
  · unfold lb; rw [getD_out _ _ (by simp; omega)]; omega
/-- a cell that holds a value -/
def CV (w : World) (g : Nat) (v : Value) : Prop := w.cell? ⟨g, 0, none⟩ = some v ∧ w.frozen? ⟨g, 0, none⟩ = false
theorem CV.below {w w' : World} {g : Nat} {v : Value} (h : CV w g v) (hb : Below w.heap.size w w') : CV w' g v :=
  ⟨(hb.cell (World.block_lt_of_cell? _ _ h.1)).trans h.1, (hb.frozen (World.block_lt_of_cell? _ _ h.1)).trans h.2⟩
theorem CV.made {w : World} {v : Value} {t : TypeId} : CV (w.alloc (.cells #[v] t)) w.heap.size v := by
  constructor
  · rw [World.cell?_alloc_at (hn := rfl)]; rfl
  · simp
end Go.Ulp
namespace Go.Proofs.YtpgmchpdpgahfaaGreatDoor
open Go.RowKit Go.Ulp
set_option linter.unusedVariables false
set_option linter.unusedSimpArgs false
set_option maxHeartbeats 2000000
set_option maxRecDepth 100000
theorem sumAdd_any (a b : Nat) (ha : a < 18446744073709551616) (hb : b < 18446744073709551616) (mode : Int) (w : World) (hT : Tab 0 w) :
    Calls Tryz.prog 11 #[.int .u64 (a : Int), .int .u64 (b : Int), .int .i64 mode] w (RetX3 w (mdX mode (sumX [a, b] mode)) (mdC mode (sumC [a, b] mode)) (mdE mode)) := by
  have KN := hid (fun w => known_any mode w)
  have AL := hid (fun g w h t => sumAll_any (some ⟨g, 0, none⟩) 2 [a, b] mode w h (two_lt a b ha hb) (by simp) t)
  have N2 := hid (fun t => ns2 w t a b)
  have HT := hid hT
  have hl : [a, b].length = 2 := rfl
  rw [hl] at AL
  cases hk : knownB mode
  · obtain ⟨e1, e2, e3⟩ := md_no hk (sumX [a, b] mode) (sumC [a, b] mode)
    rw [e1, e2, e3]
    rw [hk] at KN
    clear e1 e2 e3 hk hT hl
    go_enter Tryz.func11, Tryz.ntmps11
    go_wp2_with (go_at_call 15; (with_reducible refine (KN.out _).mono ?_); rintro en w1 ⟨rfl, rfl⟩)
    refine bodyPost_ret (by simp [results, Tryz.results11, go_sem]; try rfl) rfl ?_
    exact ⟨rfl, Below.refl _ _⟩
  · obtain ⟨e1, e2, e3⟩ := md_yes hk (sumX [a, b] mode) (sumC [a, b] mode)
    rw [e1, e2, e3]
    rw [hk] at KN
    generalize sumX [a, b] mode = sx at *
    generalize sumC [a, b] mode = sc at *
    clear e1 e2 e3 hk hT hl
    go_enter Tryz.func11, Tryz.ntmps11
    go_wp2_with (first
      | (go_at_call 15; (with_reducible refine (KN.out _).mono ?_); rintro en w1 ⟨rfl, rfl⟩)
      | (go_at_call 26; (with_reducible refine (AL.out _ _ (N2.out _) (HT.out.below (below_alloc _ _))).mono ?_); rintro en w2 ⟨rfl, hb2⟩))
    refine bodyPost_ret (by simp [results, Tryz.results11, go_sem]; try rfl) rfl ?_
    exact ⟨rfl, below_trans (below_alloc _ _) hb2⟩
end Go.Proofs.YtpgmchpdpgahfaaGreatDoor
