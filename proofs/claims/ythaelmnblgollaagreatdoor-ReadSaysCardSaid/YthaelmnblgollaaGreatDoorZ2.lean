/- The reference's whole numbers: comparison, signs. -/
import Derived.Test.YthaelmnblgollaaGreatDoorNat3
namespace Go.Ulp
open Go.RowKit
def zneg (x : Int) : Bool := decide (x < 0)
def zl (x : Int) : List Nat := decs x.natAbs
/-- the whole number of a sign and a worth -/
def zof (neg : Bool) (n : Nat) : Int := if neg then -(n : Int) else n
/-- what a call leaves that hands back a whole number -/
def RetZ (t : TypeId) (w : World) (x : Int) (e : Ending) (w' : World) : Prop :=
  ∃ ao cap, e = .returned (.agg #[.bool (zneg x), .slice ao (zl x).length cap]) ∧ Nz t w' ao cap (zl x) ∧ Below w.heap.size w w'
/-- as RetZ: at the address ao -/
def RetZA (t : TypeId) (ao : Option Addr) (w : World) (x : Int) (e : Ending) (w' : World) : Prop :=
  ∃ cap, e = .returned (.agg #[.bool (zneg x), .slice ao (zl x).length cap]) ∧ Nz t w' ao cap (zl x) ∧ Below w.heap.size w w'
/-- as RetZ: in memory that was made since -/
def RetZF (t : TypeId) (w : World) (x : Int) (e : Ending) (w' : World) : Prop :=
  ∃ ao cap, e = .returned (.agg #[.bool (zneg x), .slice ao (zl x).length cap]) ∧ Nz t w' ao cap (zl x) ∧ Below w.heap.size w w' ∧ ∀ p, ao = some p → w.heap.size ≤ p.block
theorem RetZA.any {t : TypeId} {ao : Option Addr} {w : World} {x : Int} {e : Ending} {w' : World} (h : RetZA t ao w x e w') : RetZ t w x e w' := by
  obtain ⟨cap, h1, h2, h3⟩ := h; exact ⟨ao, cap, h1, h2, h3⟩
theorem RetZF.any {t : TypeId} {w : World} {x : Int} {e : Ending} {w' : World} (h : RetZF t w x e w') : RetZ t w x e w' := by
  obtain ⟨ao, cap, h1, h2, h3, _⟩ := h; exact ⟨ao, cap, h1, h2, h3⟩
/-- block g is a variable of type Z (number t): a sign and a list -/
def ZL (t : TypeId) (w : World) (g : Nat) (n : Bool) (v : Value) : Prop :=
  w.cell? ⟨g, 0, none⟩ = some (.bool n) ∧ w.cell? ⟨g, 1, none⟩ = some v ∧ w.frozen? ⟨g, 0, none⟩ = false ∧ w.frozen? ⟨g, 1, none⟩ = false ∧ ElemIs w g t
theorem ZL.lt {t : TypeId} {w : World} {g : Nat} {n : Bool} {v : Value} (h : ZL t w g n v) : g < w.heap.size := h.2.2.2.2.lt
theorem ZL.belowB {t : TypeId} {B : Nat} {w w' : World} {g : Nat} {n : Bool} {v : Value} (h : ZL t w g n v) (hb : Below B w w') (hB : g < B) : ZL t w' g n v :=
  ⟨(hb.cell (p := ⟨g, 0, none⟩) hB).trans h.1, (hb.cell (p := ⟨g, 1, none⟩) hB).trans h.2.1, (hb.frozen (p := ⟨g, 0, none⟩) hB).trans h.2.2.1, (hb.frozen (p := ⟨g, 1, none⟩) hB).trans h.2.2.2.1, h.2.2.2.2.belowB hb hB⟩
theorem ZL.below {t : TypeId} {w w' : World} {g : Nat} {n : Bool} {v : Value} (h : ZL t w g n v) (hb : Below w.heap.size w w') : ZL t w' g n v := h.belowB hb h.lt
theorem ZL.alloc {t : TypeId} {w : World} {g : Nat} {n : Bool} {v : Value} (h : ZL t w g n v) (o : Obj) : ZL t (w.alloc o) g n v := h.below (below_alloc _ _)
theorem ZL.made {t : TypeId} {w : World} {g : Nat} {n : Bool} {v : Value} (hg : g = w.heap.size) : ZL t (w.alloc (.cells #[.bool n, v] t)) g n v := by
  subst hg
  refine ⟨?_, ?_, ?_, ?_, ElemIs.made _ _ _⟩
  · rw [World.cell?_alloc_at (hn := rfl)]; rfl
  · rw [World.cell?_alloc_at (hn := rfl)]; rfl
  · unfold World.frozen?; rw [heap_alloc_new]; simp
  · unfold World.frozen?; rw [heap_alloc_new]; simp
theorem frozen_setCell (w : World) (a p : Addr) (u : Value) : (w.setCell a u).frozen? p = w.frozen? p := by
  by_cases h : a.block = p.block
  · simp only [World.frozen?, World.setCell, Array.getElem?_modify]
    rw [if_pos h, ← h]
    cases hx : w.heap[a.block]? with
    | none => rfl
    | some o => cases o <;> rfl
  · exact World.frozen?_of_block (Below.heap_setCell _ _ _ _ (fun e => h e.symm))
theorem ZL.far {t : TypeId} {w : World} {g : Nat} {n : Bool} {v : Value} (h : ZL t w g n v) (a : Addr) (u : Value) (hne : g ≠ a.block) : ZL t (w.setCell a u) g n v := by
  refine ⟨?_, ?_, ?_, ?_, h.2.2.2.2.setCell _ _⟩
  · rw [World.cell?_setCell_other (h := fun e => hne (by rw [e]))]; exact h.1
  · rw [World.cell?_setCell_other (h := fun e => hne (by rw [e]))]; exact h.2.1
  · rw [frozen_setCell]; exact h.2.2.1
  · rw [frozen_setCell]; exact h.2.2.2.1
theorem ZL.set1 {t : TypeId} {w : World} {g : Nat} {n : Bool} {v : Value} (h : ZL t w g n v) (u : Value) : ZL t (w.setCell ⟨g, 1, none⟩ u) g n u := by
  refine ⟨?_, ?_, ?_, ?_, h.2.2.2.2.setCell _ _⟩
  · rw [World.cell?_setCell_other (h := by simp)]; exact h.1
  · exact World.cell?_setCell_same _ _ _ h.2.1
  · rw [frozen_setCell]; exact h.2.2.1
  · rw [frozen_setCell]; exact h.2.2.2.1
theorem ZL.set0 {t : TypeId} {w : World} {g : Nat} {n : Bool} {v : Value} (h : ZL t w g n v) (u : Bool) : ZL t (w.setCell ⟨g, 0, none⟩ (.bool u)) g u v := by
  refine ⟨?_, ?_, ?_, ?_, h.2.2.2.2.setCell _ _⟩
  · exact World.cell?_setCell_same _ _ _ h.1
  · rw [World.cell?_setCell_other (h := by simp)]; exact h.2.1
  · rw [frozen_setCell]; exact h.2.2.1
  · rw [frozen_setCell]; exact h.2.2.2.1
theorem zl_zof (neg : Bool) (n : Nat) : zl (zof neg n) = decs n := by unfold zl zof; cases neg <;> simp
theorem zneg_zof (neg : Bool) (n : Nat) : zneg (zof neg n) = (neg && decide (0 < n)) := by
  unfold zneg zof; cases neg <;> simp
theorem zof_self (x : Int) : zof (zneg x) x.natAbs = x := by unfold zof zneg; by_cases h : x < 0 <;> simp [h] <;> omega
theorem dval_zl (x : Int) : dval (zl x) = x.natAbs := dval_decs _
theorem zl_dec (x : Int) : Dec (zl x) := decs_lim _
theorem dval_cut0 (L : List Nat) (hz : ∀ d ∈ L.drop 0, d = 0) : dval L = 0 := by rw [List.drop_zero] at hz; exact val_zeros _ _ hz
theorem dval_pos (L : List Nat) (k : Nat) (hk : k < L.length) (h : L.getD k 0 ≠ 0) : 0 < dval L := by
  have e := val_take_drop 10000 L k (by omega)
  rw [val_drop 10000 L k hk, Nat.mul_add] at e
  have : 0 < 10000 ^ k * L.getD k 0 := Nat.mul_pos (Nat.pow_pos (by omega)) (by omega)
  unfold dval; omega
end Go.Ulp
namespace Go.Proofs.YthaelmnblgollaaGreatDoor
open Go.RowKit Go.Ulp
set_option linter.unusedVariables false
set_option linter.unusedSimpArgs false
set_option maxHeartbeats 400000
theorem trim_at (neg : Bool) (ao : Option Addr) (cap : Nat) (L : List Nat) (w : World) (h : Nz 3 w ao cap L) (hl : Dec L) :
    Calls Tryz.prog 127 #[.agg #[.bool neg, .slice ao L.length cap]] w fun e w' => RetZA 3 ao w (zof neg (dval L)) e w' := by
  have hz := h
  obtain ⟨⟨h1, h2, h3⟩, h4⟩ := h
  have HZN := hid hz
  clear h4 hz
  unfold maxLen at h2
  go_enter Tryz.func127, Tryz.ntmps127
  go_wp2_with fail
  go_loop [3] (fun v => ∃ k : Nat, k ≤ L.length ∧ v = .int .i64 k ∧ ∀ d ∈ L.drop k, d = 0) (fun v => (intOf v).toNat)
  case atStart => exact ⟨L.length, Nat.le_refl _, rfl, by simp⟩
  case round =>
    obtain ⟨k, hk, rfl, hz⟩ := hrel
    have HZ := hid hz
    clear hz
    cases k with
    | zero =>
      have e := hid (dval_cut0 L HZ.out)
      cases neg
      all_goals
        go_wp2_with fail
        go_region
        go_wp2_with fail
        go_returns
        refine ⟨cap, ?_, ?_, ?_⟩
        · rw [e.out]; rfl
        · rw [e.out]; exact Nz.nil' _ _ (by unfold maxLen; omega)
        · exact ((below_alloc _ _).trans ((below_alloc _ _).mono (by simp))).drew
    | succ m =>
      obtain ⟨b, off, rfl, hc⟩ := h3 (by omega)
      have hcell := hc m (by omega)
      have hb : b < w.heap.size := World.block_lt_of_cell? w _ hcell
      by_cases hd : lb L m = 0
      · clear hc h3
        go_wp2
        go_round
        case rel => exact ⟨m, by omega, by go_num, drop_zero_succ L m (by omega) (by unfold lb at hd; omega) HZ.out⟩
        case measure => simp [intOf]
      · have hd' : (lb L m == 0) = false := by simpa using hd
        have hdn : L.getD m 0 ≠ 0 := by unfold lb at hd; omega
        have e := hid (decs_cut L hl (m + 1) HZ.out (trim_take L m (by omega) hdn))
        have hpos := hid (dval_pos L m (by omega) hdn)
        have hN : Nz 3 w (some ⟨b, off, none⟩) cap (L.take (m + 1)) := HZN.out.take (m + 1) cap hk (by omega) (Nat.le_refl _)
        have hT := hid (show (L.take (m + 1)).length = m + 1 by rw [List.length_take, Nat.min_eq_left hk])
        clear hdn hc h3
        cases neg
        all_goals
          go_wp2_with fail
          go_region
          go_wp2_with fail
          go_returns
          refine ⟨cap, ?_, ?_, ?_⟩
          rotate_left
          · rw [zl_zof, e.out]; exact hN.below (((below_alloc _ _).trans ((below_alloc _ _).mono (by simp))).drew)
          · exact ((below_alloc _ _).trans ((below_alloc _ _).mono (by simp))).drew
          · rw [zl_zof, e.out, zneg_zof, hT.out, decide_eq_true hpos.out]; rfl
theorem trim_any (neg : Bool) (ao : Option Addr) (cap : Nat) (L : List Nat) (w : World) (h : Nz 3 w ao cap L) (hl : Dec L) :
    Calls Tryz.prog 127 #[.agg #[.bool neg, .slice ao L.length cap]] w fun e w' => RetZ 3 w (zof neg (dval L)) e w' :=
  (trim_at neg ao cap L w h hl).mono fun _ _ h => h.any
end Go.Proofs.YthaelmnblgollaaGreatDoor
namespace Go.Ulp
open Go.RowKit
theorem decs_cmp_len (m n : Nat) (h : (decs m).length < (decs n).length) : m < n := by
  have := val_lt_of_len 10000 (by omega) _ _ (decs_lim m) (decs_trim n) h
  rwa [show val 10000 (decs m) = m from dval_decs m, show val 10000 (decs n) = n from dval_decs n] at this
theorem decs_cmp_top (m n k : Nat) (hlen : (decs m).length = (decs n).length) (hk : k < (decs m).length) (heq : (decs m).drop (k + 1) = (decs n).drop (k + 1)) (h : lb (decs m) k < lb (decs n) k) : m < n := by
  have := val_lt_of_top 10000 _ _ k (decs_lim m) hlen hk heq (by unfold lb at h; omega)
  rwa [show val 10000 (decs m) = m from dval_decs m, show val 10000 (decs n) = n from dval_decs n] at this
theorem decs_cmp_eq (m n : Nat) (heq : (decs m).drop 0 = (decs n).drop 0) : m = n := by
  simp only [List.drop_zero] at heq
  rw [← dval_decs m, heq, dval_decs]
theorem cmpI_neg (x y : Int) (hx : x < 0) (hy : y < 0) : cmpI x y = -(cmpI (x.natAbs : Int) (y.natAbs : Int)) := by unfold cmpI; split <;> split <;> (try split) <;> omega
theorem cmpI_pos (x y : Int) (hx : 0 ≤ x) (hy : 0 ≤ y) : cmpI x y = cmpI (x.natAbs : Int) (y.natAbs : Int) := by unfold cmpI; split <;> split <;> (try split) <;> omega
theorem cmpI_bd (x y : Int) : -1 ≤ cmpI x y ∧ cmpI x y ≤ 1 := by unfold cmpI; split <;> (try split) <;> omega
end Go.Ulp
namespace Go.Proofs.YthaelmnblgollaaGreatDoor
open Go.RowKit Go.Ulp
set_option linter.unusedVariables false
set_option linter.unusedSimpArgs false
set_option maxHeartbeats 400000
theorem size_any (a0 a1 : Option Addr) (c0 c1 : Nat) (m n : Nat) (w : World) (h0 : Ns .i64 w a0 c0 (decs m)) (h1 : Ns .i64 w a1 c1 (decs n)) :
    Calls Tryz.prog 168 #[.slice a0 (decs m).length c0, .slice a1 (decs n).length c1] w fun e w' => e = .returned (.int .i64 (cmpI m n)) ∧ ∃ nq, w' = w.drewN nq := by
  have hc := hid (show cmpI m n = if (m : Int) < n then -1 else if (n : Int) < m then 1 else 0 from rfl)
  obtain ⟨h01, h02, h03⟩ := h0
  obtain ⟨h11, h12, h13⟩ := h1
  unfold maxLen at h02 h12
  by_cases hl : (decs m).length = (decs n).length
  · have hlb : (((decs m).length : Int) != ((decs n).length : Int)) = false := by rw [bne_eq_false_iff_eq]; omega
    have hl1 : (decs m).length ≤ (decs n).length := by omega
    have hl2 : (decs n).length ≤ (decs m).length := by omega
    have HL := hid hl
    clear hl
    go_enter Tryz.func168, Tryz.ntmps168
    go_wp2_with fail
    go_loopw [5] (fun i wr => ∃ i0 : Int, i = .int .i64 i0 ∧ -1 ≤ i0 ∧ i0 < (decs m).length ∧ (decs m).drop (i0 + 1).toNat = (decs n).drop (i0 + 1).toNat ∧ ∃ nq, wr = w.drewN nq) (fun i _ => (intOf i + 1).toNat)
    case atStart =>
      refine ⟨_, rfl, by omega, by omega, ?_, 0, rfl⟩
      rw [List.drop_eq_nil_iff.2 (by omega), List.drop_eq_nil_iff.2 (by omega)]
    case round =>
      obtain ⟨i0, rfl, hi1, hi2, hdr, nq, rfl⟩ := hrel
      by_cases hi : i0 < 0
      · have heq := hid (decs_cmp_eq m n (by rw [show (i0 + 1).toNat = 0 by omega] at hdr; exact hdr))
        clear hdr
        go_wp2_with fail
        go_ret
        refine ⟨ret_int ?_, nq, rfl⟩
        have := heq.out
        rw [hc.out, if_neg (by omega), if_neg (by omega)]
      · obtain ⟨j, rfl⟩ := Int.eq_ofNat_of_zero_le (show 0 ≤ i0 by omega)
        rw [show ((j : Int) + 1).toNat = j + 1 by omega] at hdr
        obtain ⟨b0, o0, rfl, hc0⟩ := h03 (by omega)
        obtain ⟨b1, o1, rfl, hc1⟩ := h13 (by omega)
        have k0 := hc0 j (by omega)
        have k1 := hc1 j (by omega)
        have hj1 : (j : Int) < ((decs n).length : Int) := by omega
        clear hc0 hc1 h03 h13
        have HD := hid hdr
        clear hdr
        rcases Int.lt_trichotomy (lb (decs m) j) (lb (decs n) j) with hlt | he | hgt
        · go_wp2_with fail
          go_quiet (fail)
          go_wp2_with fail
          go_ret
          refine ⟨ret_int ?_, _, by rw [World.drewN_drewN]⟩
          have := decs_cmp_top m n j HL.out (by omega) HD.out hlt
          rw [hc.out, if_pos (by omega)]
        · have he1 : ¬ lb (decs m) j < lb (decs n) j := by omega
          have he2 : ¬ lb (decs n) j < lb (decs m) j := by omega
          have HE := hid he
          clear he
          go_wp2_with fail
          go_quiet (fail)
          go_wp2_with fail
          go_quiet (fail)
          go_wp2_with fail
          go_roundw
          case rel => exact ⟨(j : Int) - 1, by go_num, by omega, by omega, by rw [show ((j : Int) - 1 + 1).toNat = j by omega]; exact drop_eq_step _ _ j (by omega) (by omega) HD.out HE.out, _, by first | rfl | (rw [World.drewN_drewN]; done) | (rw [World.drewN_drewN, World.drewN_drewN]; done)⟩
          case measure => simp [intOf]
        · have he1 : ¬ lb (decs m) j < lb (decs n) j := by omega
          go_wp2_with fail
          go_quiet (fail)
          go_wp2_with fail
          go_quiet (fail)
          go_wp2_with fail
          go_ret
          refine ⟨ret_int ?_, _, by first | rfl | (rw [World.drewN_drewN]; done) | (rw [World.drewN_drewN, World.drewN_drewN]; done)⟩
          have := decs_cmp_top n m j HL.out.symm (by omega) HD.out.symm hgt
          rw [hc.out, if_neg (by omega), if_pos (by omega)]
  · have hlb : (((decs m).length : Int) != ((decs n).length : Int)) = true := by rw [bne_iff_ne]; omega
    rcases Nat.lt_or_gt_of_ne hl with hlt | hgt
    · go_enter Tryz.func168, Tryz.ntmps168
      go_wp2_with fail
      go_ret
      refine ⟨ret_int ?_, 0, rfl⟩
      have := decs_cmp_len m n hlt
      rw [hc.out, if_pos (by omega)]
    · go_enter Tryz.func168, Tryz.ntmps168
      go_wp2_with fail
      go_ret
      refine ⟨ret_int ?_, 0, rfl⟩
      have := decs_cmp_len n m hgt
      rw [hc.out, if_neg (by omega), if_pos (by omega)]

theorem zcmp_any (a0 a1 : Option Addr) (c0 c1 : Nat) (x y : Int) (w : World) (h0 : Nz 3 w a0 c0 (zl x)) (h1 : Nz 3 w a1 c1 (zl y)) :
    Calls Tryz.prog 77 #[.agg #[.bool (zneg x), .slice a0 (zl x).length c0], .agg #[.bool (zneg y), .slice a1 (zl y).length c1]] w fun e w' => e = .returned (.int .i64 (cmpI x y)) ∧ Below w.heap.size w w' := by
  have hbd := cmpI_bd (x.natAbs : Int) (y.natAbs : Int)
  by_cases hx : x < 0 <;> by_cases hy : y < 0
  · have ex : zneg x = true := by simpa [zneg] using hx
    have ey : zneg y = true := by simpa [zneg] using hy
    have E := hid (cmpI_neg x y hx hy)
    go_enter Tryz.func77, Tryz.ntmps77
    go_wp2_with (go_at_call 168; refine (size_any _ _ _ _ _ _ _ (h0.below (by go_grown)).ns (h1.below (by go_grown)).ns).mono ?_; rintro e w' ⟨rfl, nq, rfl⟩)
    go_ret
    exact ⟨ret_int (by rw [E.out]), below_drewN (by go_grown) _⟩
  · have ex : zneg x = true := by simpa [zneg] using hx
    have ey : zneg y = false := by simpa [zneg] using hy
    go_enter Tryz.func77, Tryz.ntmps77
    go_wp2_with fail
    go_ret
    exact ⟨ret_int (by unfold cmpI; rw [if_pos (by omega)]), by go_grown⟩
  · have ex : zneg x = false := by simpa [zneg] using hx
    have ey : zneg y = true := by simpa [zneg] using hy
    go_enter Tryz.func77, Tryz.ntmps77
    go_wp2_with fail
    go_ret
    exact ⟨ret_int (by unfold cmpI; rw [if_neg (by omega), if_pos (by omega)]), by go_grown⟩
  · have ex : zneg x = false := by simpa [zneg] using hx
    have ey : zneg y = false := by simpa [zneg] using hy
    have E := hid (cmpI_pos x y (by omega) (by omega))
    go_enter Tryz.func77, Tryz.ntmps77
    go_wp2_with (go_at_call 168; refine (size_any _ _ _ _ _ _ _ (h0.below (by go_grown)).ns (h1.below (by go_grown)).ns).mono ?_; rintro e w' ⟨rfl, nq, rfl⟩)
    go_ret
    exact ⟨ret_int (by rw [E.out]), below_drewN (by go_grown) _⟩

theorem _root_.Go.Ulp.RetZ.pre {t : TypeId} {w w1 : World} {x : Int} {e : Ending} {w' : World} (h : RetZ t w1 x e w') (hb : Below w.heap.size w w1) : RetZ t w x e w' := by
  obtain ⟨ao, cap, h1, h2, h3⟩ := h
  exact ⟨ao, cap, h1, h2, below_trans hb h3⟩
theorem zneg_any (a0 : Option Addr) (c0 : Nat) (x : Int) (w : World) (h0 : Nz 3 w a0 c0 (zl x)) :
    Calls Tryz.prog 48 #[.agg #[.bool (zneg x), .slice a0 (zl x).length c0]] w fun e w' => RetZ 3 w (-x) e w' := by
  have E := hid (show zof (!zneg x) (dval (zl x)) = -x by rw [dval_zl]; unfold zof zneg; by_cases h : x < 0 <;> simp [h] <;> omega)
  go_enter Tryz.func48, Tryz.ntmps48
  go_wp2_with fail
  refine (trim_any _ _ _ _ _ (h0.below (by go_grown)) (zl_dec x)).mono ?_
  rw [E.out]
  rintro e w' ⟨ao, cap, rfl, hN, hb⟩
  have hs : ElemIs w' (w.heap.size + 1) 39 := (ElemIs.made' _ _ _ (by simp)).below hb
  have k0 := (bcell hb).1 (w.heap.size + 1) 0 (by simp)
  have k1 := (bcell hb).1 (w.heap.size + 1) 1 (by simp)
  have f0 := (bcell hb).2 (w.heap.size + 1) 0 (by simp)
  have f1 := (bcell hb).2 (w.heap.size + 1) 1 (by simp)
  go_wp2_with fail
  refine bodyPost_ret (by simp [results, Tryz.results48, go_sem, k0, k1]; try rfl) rfl ?_
  exact ⟨_, _, rfl, (hN.setCell hs (by decide) _ _).setCell (hs.setCell _ _) (by decide) _ _, ((below_trans (by go_grown) hb).setCell (by simp) _).setCell (by simp) _⟩

theorem zabs_any (a0 : Option Addr) (c0 : Nat) (x : Int) (w : World) (h0 : Nz 3 w a0 c0 (zl x)) :
    Calls Tryz.prog 78 #[.agg #[.bool (zneg x), .slice a0 (zl x).length c0]] w fun e w' => RetZ 3 w (x.natAbs : Int) e w' := by
  have E := hid (show zl (x.natAbs : Int) = zl x by unfold zl; rw [Int.natAbs_natCast])
  have E2 := hid (show zneg (x.natAbs : Int) = false by unfold zneg; simp)
  go_enter Tryz.func78, Tryz.ntmps78
  go_wp2_with fail
  refine bodyPost_ret (by simp [results, Tryz.results78, go_sem]; try rfl) rfl ?_
  refine ⟨a0, c0, ?_, ?_, by go_grown⟩
  · rw [E.out, E2.out]
  · rw [E.out]; exact h0.below (by go_grown)
end Go.Proofs.YthaelmnblgollaaGreatDoor
