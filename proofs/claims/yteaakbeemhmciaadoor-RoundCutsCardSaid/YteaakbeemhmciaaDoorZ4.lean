/- The reference's whole numbers: sums of two signs. -/
import Derived.Test.YteaakbeemhmciaaDoorZ3
namespace Go.Ulp
open Go.RowKit
theorem dec_sub_step {q b L M k x y d b' : Nat} (h : L + 10000 ^ k * b = q + M) (hd : d + b + y = x + 10000 * b') : (L + 10000 ^ k * x) + 10000 ^ (k + 1) * b' = (q + 10000 ^ k * d) + (M + 10000 ^ k * y) := by
  have e := congrArg (fun z => 10000 ^ k * z) hd
  simp only [Nat.mul_add] at e
  rw [Nat.pow_succ, Nat.mul_assoc]; omega
theorem dec_sub_end {m n q b k : Nat} (h : m + 10000 ^ k * b = q + n) (hb : b ≤ 1) (hq : q < 10000 ^ k) (hn : n ≤ m) : q = m - n := by
  have : b = 0 ∨ b = 1 := by omega
  rcases this with rfl | rfl
  · omega
  · rw [Nat.mul_one] at h; omega
theorem dval_lt (L : List Nat) (h : Dec L) : dval L < 10000 ^ L.length := val_lt _ L h
theorem zl_len_le {x y : Int} (h : x.natAbs ≤ y.natAbs) : (zl x).length ≤ (zl y).length := digs_len_mono _ (by omega) h
end Go.Ulp
namespace Go.Proofs.YteaakbeemhmciaaDoor
open Go.RowKit Go.Ulp
set_option linter.unusedVariables false
set_option linter.unusedSimpArgs false
set_option maxHeartbeats 1000000
set_option maxRecDepth 100000
theorem zadd_ge (a0 a1 : Option Addr) (c0 c1 : Nat) (x y : Int) (w : World) (h0 : Nz 3 w a0 c0 (zl x)) (h1 : Nz 3 w a1 c1 (zl y)) (hl0 : (zl x).length ≤ 4294967296) (hs : zneg x ≠ zneg y) (hge : y.natAbs ≤ x.natAbs) (hsumV : Int) (hsum : hsumV = x + y) :
    Calls Tryd.prog 105 #[.agg #[.bool (zneg x), .slice a0 (zl x).length c0], .agg #[.bool (zneg y), .slice a1 (zl y).length c1]] w fun e w' => RetZF 3 w hsumV e w' := by
  have hfin := hid (show zof (zneg x) (x.natAbs - y.natAbs) = hsumV by
    rw [hsum]; unfold zneg at hs; unfold zof zneg; by_cases h : x < 0 <;> by_cases h' : y < 0 <;> simp [h, h'] at hs ⊢ <;> omega)
  have hlen := zl_len_le hge
  have n0 := h0.ns
  have n1 := h1.ns
  have hcm : decide (cmpI (x.natAbs : Int) (y.natAbs : Int) < 0) = false := by unfold cmpI; simp; split <;> (try split) <;> omega
  have HLE := hid hge
  have hnn : (zneg x = true ∧ zneg y = false) ∨ (zneg x = false ∧ zneg y = true) := by cases h : zneg x <;> cases h' : zneg y <;> simp_all
  clear hs hge hsum
  rcases hnn with ⟨e1, e2⟩ | ⟨e1, e2⟩
  · rw [e1] at hfin ⊢
    rw [e2]
    clear e1 e2
    go_enter Tryd.func105, Tryd.ntmps105
    go_wp2_with (go_at_call 134; refine (size_any _ _ _ _ _ _ _ (h0.below (by go_grown)).ns (h1.below (by go_grown)).ns).mono ?_; rintro e w' ⟨rfl, nq, rfl⟩)
    go_loopw [6, 7] (fun c i wr => ∃ (k bb : Nat) (Q : List Nat) (v : Value), i = .int .i64 k ∧ c = .int .i64 (-(bb : Int)) ∧ bb ≤ 1 ∧ k ≤ (zl x).length ∧ Q.length = k ∧ Dec Q ∧ dval ((zl x).take k) + 10000 ^ k * bb = dval Q + dval ((zl y).take k) ∧ Own (w.heap.size + 1 + 1 + 1 + 1) 3 .i64 wr v Q ∧ ZL 40 wr w.heap.size true (.slice a0 (zl x).length c0) ∧ ZL 40 wr (w.heap.size + 1) false (.slice a1 (zl y).length c1) ∧ ZL 40 wr (w.heap.size + 1 + 1) false (.slice none 0 0) ∧ ZL 40 wr (w.heap.size + 1 + 1 + 1) true v ∧ Below w.heap.size w wr) (fun _ i _ => (zl x).length + (zl y).length + 2 - (intOf i).toNat)
    case atStart =>
      exact ⟨0, 0, [], _, rfl, by rfl, by omega, by omega, rfl, AllLt.nil, by simp [dval, val], Own.nil, (((ZL.made rfl).alloc _).alloc _).alloc _, ((ZL.made (by simp)).alloc _).alloc _, (ZL.made (by simp)).alloc _, ZL.made (by simp), by (repeat' (first | (with_reducible exact Below.refl _ _) | (with_reducible assumption) | (with_reducible refine below_drewN ?_ _) | (with_reducible refine Below.drew ?_) | (with_reducible refine Below.alloc ?_ ?_ _) | (with_reducible refine Below.setCell ?_ ?_ _) | go_size))⟩
    case round =>
      obtain ⟨k, bb, Q, v, rfl, rfl, hbb, hk, hQ, lQ, hv, hown, zA, zB, zR, zO, hb⟩ := hrel
      have HQ := hid hQ
      have HV := hid hv
      clear hQ hv
      have hsz := zO.lt
      obtain ⟨kA0, kA1, -, -, -⟩ := id zA
      obtain ⟨kB0, kB1, -, -, -⟩ := id zB
      obtain ⟨kO0, kO1, fO0, fO1, -⟩ := id zO
      by_cases hka : k < (zl x).length
      · obtain ⟨b0, o0, rfl, hc0⟩ := n0.2.2 (by omega)
        obtain ⟨dx, hdx⟩ : ∃ z, z = (zl x).getD k 0 := ⟨_, rfl⟩
        have hdx1 : dx < 10000 := by rw [hdx]; exact lb_dec _ (zl_dec _) k
        have hcellX : wr.cell? ⟨b0, o0 + k, none⟩ = some (.int .i64 (dx : Int)) := by
          have h1 := hc0 k (by omega)
          have h2 := hb.cell (p := ⟨b0, o0 + k, none⟩) (World.block_lt_of_cell? w _ h1)
          rw [h2, h1, hdx]; rfl
        clear hc0
        by_cases hkb : k < (zl y).length
        · obtain ⟨b1, o1, rfl, hc1⟩ := n1.2.2 (by omega)
          obtain ⟨dy, hdy⟩ : ∃ z, z = (zl y).getD k 0 := ⟨_, rfl⟩
          have hdy1 : dy < 10000 := by rw [hdy]; exact lb_dec _ (zl_dec _) k
          have hcellY : wr.cell? ⟨b1, o1 + k, none⟩ = some (.int .i64 (dy : Int)) := by
            have h1 := hc1 k (by omega)
            have h2 := hb.cell (p := ⟨b1, o1 + k, none⟩) (World.block_lt_of_cell? w _ h1)
            rw [h2, h1, hdy]; rfl
          clear hc1
          have HX := hid hdx
          have HY := hid hdy
          clear hdx hdy
          by_cases hsum : bb + dy ≤ dx
          · go_wp2_with (at_builtin; refine wpList_push ei_int (by omega) rfl _ _ rfl (w.heap.size + 1 + 1 + 1 + 1) Q (dx - (bb + dy)) _ rfl (Own.alloc hown _) ⟨wr.heap.size, 0, none⟩ rfl (cell_push _ _ _ _ _ (by omega)) (by rw [HQ.out]; omega) (by simp; omega) ?_; intro v1 w1 hown1 hb1; obtain ⟨ao1, nn1, cap1, rfl⟩ := hown1.slice; obtain ⟨hc1, hf1⟩ := bcellB hb1)
            clear hsum
            go_roundw
            case rel => exact ⟨k + 1, 0, Q ++ [dx - (bb + dy)], .slice ao1 nn1 cap1, by go_num, by go_num, by omega, by omega, by rw [List.length_append, HQ.out]; rfl, AllLt.append.2 ⟨lQ, AllLt.cons.2 ⟨by omega, AllLt.nil⟩⟩, by
                have := dec_sub_step (x := dx) (y := dy) (d := dx - (bb + dy)) (b' := 0) HV.out (by omega)
                unfold dval at *
                rw [val_snoc, HQ.out, take_step, take_step, ← HX.out, ← HY.out]; exact this,
                hown1.set_other _ (by simp) _, ((zA.alloc _).belowB hb1 (by omega)).far _ _ (by simp; omega), ((zB.alloc _).belowB hb1 (by omega)).far _ _ (by simp), ((zR.alloc _).belowB hb1 (by omega)).far _ _ (by simp), ((zO.alloc _).belowB hb1 (by omega)).set1 _,
                ((hb.trans ((below_alloc wr _).mono hb.size)).trans (hb1.mono (by omega))).setCell (by simp; omega) _⟩
            case measure => simp [intOf]; omega
          · go_wp2_with (at_builtin; refine wpList_push ei_int (by omega) rfl _ _ rfl (w.heap.size + 1 + 1 + 1 + 1) Q (dx + 10000 - (bb + dy)) _ rfl (Own.alloc hown _) ⟨wr.heap.size, 0, none⟩ rfl (cell_push _ _ _ _ _ (by omega)) (by rw [HQ.out]; omega) (by simp; omega) ?_; intro v1 w1 hown1 hb1; obtain ⟨ao1, nn1, cap1, rfl⟩ := hown1.slice; obtain ⟨hc1, hf1⟩ := bcellB hb1)
            go_roundw
            case rel => exact ⟨k + 1, 1, Q ++ [dx + 10000 - (bb + dy)], .slice ao1 nn1 cap1, by go_num, by go_num, by omega, by omega, by rw [List.length_append, HQ.out]; rfl, AllLt.append.2 ⟨lQ, AllLt.cons.2 ⟨by omega, AllLt.nil⟩⟩, by
                have := dec_sub_step (x := dx) (y := dy) (d := dx + 10000 - (bb + dy)) (b' := 1) HV.out (by omega)
                unfold dval at *
                rw [val_snoc, HQ.out, take_step, take_step, ← HX.out, ← HY.out]; exact this,
                hown1.set_other _ (by simp) _, ((zA.alloc _).belowB hb1 (by omega)).far _ _ (by simp; omega), ((zB.alloc _).belowB hb1 (by omega)).far _ _ (by simp), ((zR.alloc _).belowB hb1 (by omega)).far _ _ (by simp), ((zO.alloc _).belowB hb1 (by omega)).set1 _,
                ((hb.trans ((below_alloc wr _).mono hb.size)).trans (hb1.mono (by omega))).setCell (by simp; omega) _⟩
            case measure => simp [intOf]; omega
        · have hdy : 0 = (zl y).getD k 0 := (getD_out _ _ (by omega)).symm
          have HX := hid hdx
          have HY := hid hdy
          clear hdx hdy
          by_cases hsum : bb ≤ dx
          · go_wp2_with (at_builtin; refine wpList_push ei_int (by omega) rfl _ _ rfl (w.heap.size + 1 + 1 + 1 + 1) Q (dx - (bb)) _ rfl (Own.alloc hown _) ⟨wr.heap.size, 0, none⟩ rfl (cell_push _ _ _ _ _ (by omega)) (by rw [HQ.out]; omega) (by simp; omega) ?_; intro v1 w1 hown1 hb1; obtain ⟨ao1, nn1, cap1, rfl⟩ := hown1.slice; obtain ⟨hc1, hf1⟩ := bcellB hb1)
            clear hsum
            go_roundw
            case rel => exact ⟨k + 1, 0, Q ++ [dx - (bb)], .slice ao1 nn1 cap1, by go_num, by go_num, by omega, by omega, by rw [List.length_append, HQ.out]; rfl, AllLt.append.2 ⟨lQ, AllLt.cons.2 ⟨by omega, AllLt.nil⟩⟩, by
                have := dec_sub_step (x := dx) (y := 0) (d := dx - (bb)) (b' := 0) HV.out (by omega)
                unfold dval at *
                rw [val_snoc, HQ.out, take_step, take_step, ← HX.out, ← HY.out]; exact this,
                hown1.set_other _ (by simp) _, ((zA.alloc _).belowB hb1 (by omega)).far _ _ (by simp; omega), ((zB.alloc _).belowB hb1 (by omega)).far _ _ (by simp), ((zR.alloc _).belowB hb1 (by omega)).far _ _ (by simp), ((zO.alloc _).belowB hb1 (by omega)).set1 _,
                ((hb.trans ((below_alloc wr _).mono hb.size)).trans (hb1.mono (by omega))).setCell (by simp; omega) _⟩
            case measure => simp [intOf]; omega
          · go_wp2_with (at_builtin; refine wpList_push ei_int (by omega) rfl _ _ rfl (w.heap.size + 1 + 1 + 1 + 1) Q (dx + 10000 - (bb)) _ rfl (Own.alloc hown _) ⟨wr.heap.size, 0, none⟩ rfl (cell_push _ _ _ _ _ (by omega)) (by rw [HQ.out]; omega) (by simp; omega) ?_; intro v1 w1 hown1 hb1; obtain ⟨ao1, nn1, cap1, rfl⟩ := hown1.slice; obtain ⟨hc1, hf1⟩ := bcellB hb1)
            go_roundw
            case rel => exact ⟨k + 1, 1, Q ++ [dx + 10000 - (bb)], .slice ao1 nn1 cap1, by go_num, by go_num, by omega, by omega, by rw [List.length_append, HQ.out]; rfl, AllLt.append.2 ⟨lQ, AllLt.cons.2 ⟨by omega, AllLt.nil⟩⟩, by
                have := dec_sub_step (x := dx) (y := 0) (d := dx + 10000 - (bb)) (b' := 1) HV.out (by omega)
                unfold dval at *
                rw [val_snoc, HQ.out, take_step, take_step, ← HX.out, ← HY.out]; exact this,
                hown1.set_other _ (by simp) _, ((zA.alloc _).belowB hb1 (by omega)).far _ _ (by simp; omega), ((zB.alloc _).belowB hb1 (by omega)).far _ _ (by simp), ((zR.alloc _).belowB hb1 (by omega)).far _ _ (by simp), ((zO.alloc _).belowB hb1 (by omega)).set1 _,
                ((hb.trans ((below_alloc wr _).mono hb.size)).trans (hb1.mono (by omega))).setCell (by simp; omega) _⟩
            case measure => simp [intOf]; omega
      · have hke : k = (zl x).length := by omega
        have hval : zof true (dval Q) = hsumV := by
          have := HV.out
          rw [hke, List.take_of_length_le (Nat.le_refl _), List.take_of_length_le hlen, dval_zl, dval_zl, ← hke] at this
          rw [dec_sub_end this hbb (by have := dval_lt Q lQ; rwa [HQ.out] at this) HLE.out]; exact hfin.out
        have HF := hid hval
        clear hval hke
        obtain ⟨ao1, cap1, rfl, hN1⟩ := hown.nz
        go_wp2_with fail
        have hfr : ∀ p, ao1 = some p → w.heap.size ≤ p.block := fun p hp => Nat.le_trans (by omega) (hown.fresh p hp)
        refine (trim_at _ _ _ _ _ hN1 lQ).mono ?_
        rw [HF.out]
        rintro e w2 ⟨cap2, rfl, hN2, hb2⟩
        have zR2 := zR.below hb2
        have k0 := zR2.1
        have k1 := zR2.2.1
        have f0 := zR2.2.2.1
        have f1 := zR2.2.2.2.1
        have hs2 := zR2.2.2.2.2
        go_wp2_with fail
        refine bodyPost_ret (by simp [results, Tryd.results105, go_sem, k0, k1]; try rfl) rfl ?_
        exact ⟨_, _, rfl, (hN2.setCell hs2 (by decide) _ _).setCell (hs2.setCell _ _) (by decide) _ _, ((below_trans hb hb2).setCell (by simp; omega) _).setCell (by simp; omega) _, hfr⟩
  · rw [e1] at hfin ⊢
    rw [e2]
    clear e1 e2
    go_enter Tryd.func105, Tryd.ntmps105
    go_wp2_with (go_at_call 134; refine (size_any _ _ _ _ _ _ _ (h0.below (by go_grown)).ns (h1.below (by go_grown)).ns).mono ?_; rintro e w' ⟨rfl, nq, rfl⟩)
    go_loopw [6, 7] (fun c i wr => ∃ (k bb : Nat) (Q : List Nat) (v : Value), i = .int .i64 k ∧ c = .int .i64 (-(bb : Int)) ∧ bb ≤ 1 ∧ k ≤ (zl x).length ∧ Q.length = k ∧ Dec Q ∧ dval ((zl x).take k) + 10000 ^ k * bb = dval Q + dval ((zl y).take k) ∧ Own (w.heap.size + 1 + 1 + 1 + 1) 3 .i64 wr v Q ∧ ZL 40 wr w.heap.size false (.slice a0 (zl x).length c0) ∧ ZL 40 wr (w.heap.size + 1) true (.slice a1 (zl y).length c1) ∧ ZL 40 wr (w.heap.size + 1 + 1) false (.slice none 0 0) ∧ ZL 40 wr (w.heap.size + 1 + 1 + 1) false v ∧ Below w.heap.size w wr) (fun _ i _ => (zl x).length + (zl y).length + 2 - (intOf i).toNat)
    case atStart =>
      exact ⟨0, 0, [], _, rfl, by rfl, by omega, by omega, rfl, AllLt.nil, by simp [dval, val], Own.nil, (((ZL.made rfl).alloc _).alloc _).alloc _, ((ZL.made (by simp)).alloc _).alloc _, (ZL.made (by simp)).alloc _, ZL.made (by simp), by (repeat' (first | (with_reducible exact Below.refl _ _) | (with_reducible assumption) | (with_reducible refine below_drewN ?_ _) | (with_reducible refine Below.drew ?_) | (with_reducible refine Below.alloc ?_ ?_ _) | (with_reducible refine Below.setCell ?_ ?_ _) | go_size))⟩
    case round =>
      obtain ⟨k, bb, Q, v, rfl, rfl, hbb, hk, hQ, lQ, hv, hown, zA, zB, zR, zO, hb⟩ := hrel
      have HQ := hid hQ
      have HV := hid hv
      clear hQ hv
      have hsz := zO.lt
      obtain ⟨kA0, kA1, -, -, -⟩ := id zA
      obtain ⟨kB0, kB1, -, -, -⟩ := id zB
      obtain ⟨kO0, kO1, fO0, fO1, -⟩ := id zO
      by_cases hka : k < (zl x).length
      · obtain ⟨b0, o0, rfl, hc0⟩ := n0.2.2 (by omega)
        obtain ⟨dx, hdx⟩ : ∃ z, z = (zl x).getD k 0 := ⟨_, rfl⟩
        have hdx1 : dx < 10000 := by rw [hdx]; exact lb_dec _ (zl_dec _) k
        have hcellX : wr.cell? ⟨b0, o0 + k, none⟩ = some (.int .i64 (dx : Int)) := by
          have h1 := hc0 k (by omega)
          have h2 := hb.cell (p := ⟨b0, o0 + k, none⟩) (World.block_lt_of_cell? w _ h1)
          rw [h2, h1, hdx]; rfl
        clear hc0
        by_cases hkb : k < (zl y).length
        · obtain ⟨b1, o1, rfl, hc1⟩ := n1.2.2 (by omega)
          obtain ⟨dy, hdy⟩ : ∃ z, z = (zl y).getD k 0 := ⟨_, rfl⟩
          have hdy1 : dy < 10000 := by rw [hdy]; exact lb_dec _ (zl_dec _) k
          have hcellY : wr.cell? ⟨b1, o1 + k, none⟩ = some (.int .i64 (dy : Int)) := by
            have h1 := hc1 k (by omega)
            have h2 := hb.cell (p := ⟨b1, o1 + k, none⟩) (World.block_lt_of_cell? w _ h1)
            rw [h2, h1, hdy]; rfl
          clear hc1
          have HX := hid hdx
          have HY := hid hdy
          clear hdx hdy
          by_cases hsum : bb + dy ≤ dx
          · go_wp2_with (at_builtin; refine wpList_push ei_int (by omega) rfl _ _ rfl (w.heap.size + 1 + 1 + 1 + 1) Q (dx - (bb + dy)) _ rfl (Own.alloc hown _) ⟨wr.heap.size, 0, none⟩ rfl (cell_push _ _ _ _ _ (by omega)) (by rw [HQ.out]; omega) (by simp; omega) ?_; intro v1 w1 hown1 hb1; obtain ⟨ao1, nn1, cap1, rfl⟩ := hown1.slice; obtain ⟨hc1, hf1⟩ := bcellB hb1)
            clear hsum
            go_roundw
            case rel => exact ⟨k + 1, 0, Q ++ [dx - (bb + dy)], .slice ao1 nn1 cap1, by go_num, by go_num, by omega, by omega, by rw [List.length_append, HQ.out]; rfl, AllLt.append.2 ⟨lQ, AllLt.cons.2 ⟨by omega, AllLt.nil⟩⟩, by
                have := dec_sub_step (x := dx) (y := dy) (d := dx - (bb + dy)) (b' := 0) HV.out (by omega)
                unfold dval at *
                rw [val_snoc, HQ.out, take_step, take_step, ← HX.out, ← HY.out]; exact this,
                hown1.set_other _ (by simp) _, ((zA.alloc _).belowB hb1 (by omega)).far _ _ (by simp; omega), ((zB.alloc _).belowB hb1 (by omega)).far _ _ (by simp), ((zR.alloc _).belowB hb1 (by omega)).far _ _ (by simp), ((zO.alloc _).belowB hb1 (by omega)).set1 _,
                ((hb.trans ((below_alloc wr _).mono hb.size)).trans (hb1.mono (by omega))).setCell (by simp; omega) _⟩
            case measure => simp [intOf]; omega
          · go_wp2_with (at_builtin; refine wpList_push ei_int (by omega) rfl _ _ rfl (w.heap.size + 1 + 1 + 1 + 1) Q (dx + 10000 - (bb + dy)) _ rfl (Own.alloc hown _) ⟨wr.heap.size, 0, none⟩ rfl (cell_push _ _ _ _ _ (by omega)) (by rw [HQ.out]; omega) (by simp; omega) ?_; intro v1 w1 hown1 hb1; obtain ⟨ao1, nn1, cap1, rfl⟩ := hown1.slice; obtain ⟨hc1, hf1⟩ := bcellB hb1)
            go_roundw
            case rel => exact ⟨k + 1, 1, Q ++ [dx + 10000 - (bb + dy)], .slice ao1 nn1 cap1, by go_num, by go_num, by omega, by omega, by rw [List.length_append, HQ.out]; rfl, AllLt.append.2 ⟨lQ, AllLt.cons.2 ⟨by omega, AllLt.nil⟩⟩, by
                have := dec_sub_step (x := dx) (y := dy) (d := dx + 10000 - (bb + dy)) (b' := 1) HV.out (by omega)
                unfold dval at *
                rw [val_snoc, HQ.out, take_step, take_step, ← HX.out, ← HY.out]; exact this,
                hown1.set_other _ (by simp) _, ((zA.alloc _).belowB hb1 (by omega)).far _ _ (by simp; omega), ((zB.alloc _).belowB hb1 (by omega)).far _ _ (by simp), ((zR.alloc _).belowB hb1 (by omega)).far _ _ (by simp), ((zO.alloc _).belowB hb1 (by omega)).set1 _,
                ((hb.trans ((below_alloc wr _).mono hb.size)).trans (hb1.mono (by omega))).setCell (by simp; omega) _⟩
            case measure => simp [intOf]; omega
        · have hdy : 0 = (zl y).getD k 0 := (getD_out _ _ (by omega)).symm
          have HX := hid hdx
          have HY := hid hdy
          clear hdx hdy
          by_cases hsum : bb ≤ dx
          · go_wp2_with (at_builtin; refine wpList_push ei_int (by omega) rfl _ _ rfl (w.heap.size + 1 + 1 + 1 + 1) Q (dx - (bb)) _ rfl (Own.alloc hown _) ⟨wr.heap.size, 0, none⟩ rfl (cell_push _ _ _ _ _ (by omega)) (by rw [HQ.out]; omega) (by simp; omega) ?_; intro v1 w1 hown1 hb1; obtain ⟨ao1, nn1, cap1, rfl⟩ := hown1.slice; obtain ⟨hc1, hf1⟩ := bcellB hb1)
            clear hsum
            go_roundw
            case rel => exact ⟨k + 1, 0, Q ++ [dx - (bb)], .slice ao1 nn1 cap1, by go_num, by go_num, by omega, by omega, by rw [List.length_append, HQ.out]; rfl, AllLt.append.2 ⟨lQ, AllLt.cons.2 ⟨by omega, AllLt.nil⟩⟩, by
                have := dec_sub_step (x := dx) (y := 0) (d := dx - (bb)) (b' := 0) HV.out (by omega)
                unfold dval at *
                rw [val_snoc, HQ.out, take_step, take_step, ← HX.out, ← HY.out]; exact this,
                hown1.set_other _ (by simp) _, ((zA.alloc _).belowB hb1 (by omega)).far _ _ (by simp; omega), ((zB.alloc _).belowB hb1 (by omega)).far _ _ (by simp), ((zR.alloc _).belowB hb1 (by omega)).far _ _ (by simp), ((zO.alloc _).belowB hb1 (by omega)).set1 _,
                ((hb.trans ((below_alloc wr _).mono hb.size)).trans (hb1.mono (by omega))).setCell (by simp; omega) _⟩
            case measure => simp [intOf]; omega
          · go_wp2_with (at_builtin; refine wpList_push ei_int (by omega) rfl _ _ rfl (w.heap.size + 1 + 1 + 1 + 1) Q (dx + 10000 - (bb)) _ rfl (Own.alloc hown _) ⟨wr.heap.size, 0, none⟩ rfl (cell_push _ _ _ _ _ (by omega)) (by rw [HQ.out]; omega) (by simp; omega) ?_; intro v1 w1 hown1 hb1; obtain ⟨ao1, nn1, cap1, rfl⟩ := hown1.slice; obtain ⟨hc1, hf1⟩ := bcellB hb1)
            go_roundw
            case rel => exact ⟨k + 1, 1, Q ++ [dx + 10000 - (bb)], .slice ao1 nn1 cap1, by go_num, by go_num, by omega, by omega, by rw [List.length_append, HQ.out]; rfl, AllLt.append.2 ⟨lQ, AllLt.cons.2 ⟨by omega, AllLt.nil⟩⟩, by
                have := dec_sub_step (x := dx) (y := 0) (d := dx + 10000 - (bb)) (b' := 1) HV.out (by omega)
                unfold dval at *
                rw [val_snoc, HQ.out, take_step, take_step, ← HX.out, ← HY.out]; exact this,
                hown1.set_other _ (by simp) _, ((zA.alloc _).belowB hb1 (by omega)).far _ _ (by simp; omega), ((zB.alloc _).belowB hb1 (by omega)).far _ _ (by simp), ((zR.alloc _).belowB hb1 (by omega)).far _ _ (by simp), ((zO.alloc _).belowB hb1 (by omega)).set1 _,
                ((hb.trans ((below_alloc wr _).mono hb.size)).trans (hb1.mono (by omega))).setCell (by simp; omega) _⟩
            case measure => simp [intOf]; omega
      · have hke : k = (zl x).length := by omega
        have hval : zof false (dval Q) = hsumV := by
          have := HV.out
          rw [hke, List.take_of_length_le (Nat.le_refl _), List.take_of_length_le hlen, dval_zl, dval_zl, ← hke] at this
          rw [dec_sub_end this hbb (by have := dval_lt Q lQ; rwa [HQ.out] at this) HLE.out]; exact hfin.out
        have HF := hid hval
        clear hval hke
        obtain ⟨ao1, cap1, rfl, hN1⟩ := hown.nz
        go_wp2_with fail
        have hfr : ∀ p, ao1 = some p → w.heap.size ≤ p.block := fun p hp => Nat.le_trans (by omega) (hown.fresh p hp)
        refine (trim_at _ _ _ _ _ hN1 lQ).mono ?_
        rw [HF.out]
        rintro e w2 ⟨cap2, rfl, hN2, hb2⟩
        have zR2 := zR.below hb2
        have k0 := zR2.1
        have k1 := zR2.2.1
        have f0 := zR2.2.2.1
        have f1 := zR2.2.2.2.1
        have hs2 := zR2.2.2.2.2
        go_wp2_with fail
        refine bodyPost_ret (by simp [results, Tryd.results105, go_sem, k0, k1]; try rfl) rfl ?_
        exact ⟨_, _, rfl, (hN2.setCell hs2 (by decide) _ _).setCell (hs2.setCell _ _) (by decide) _ _, ((below_trans hb hb2).setCell (by simp; omega) _).setCell (by simp; omega) _, hfr⟩
theorem zadd_lt (a0 a1 : Option Addr) (c0 c1 : Nat) (x y : Int) (w : World) (h0 : Nz 3 w a0 c0 (zl x)) (h1 : Nz 3 w a1 c1 (zl y)) (hl0 : (zl y).length ≤ 4294967296) (hs : zneg x ≠ zneg y) (hge : x.natAbs < y.natAbs) (hsumV : Int) (hsum : hsumV = x + y) :
    Calls Tryd.prog 105 #[.agg #[.bool (zneg x), .slice a0 (zl x).length c0], .agg #[.bool (zneg y), .slice a1 (zl y).length c1]] w fun e w' => RetZF 3 w hsumV e w' := by
  have hfin := hid (show zof (zneg y) (y.natAbs - x.natAbs) = hsumV by
    rw [hsum]; unfold zneg at hs; unfold zof zneg; by_cases h : x < 0 <;> by_cases h' : y < 0 <;> simp [h, h'] at hs ⊢ <;> omega)
  have hlen := zl_len_le (Nat.le_of_lt hge)
  have n0 := h0.ns
  have n1 := h1.ns
  have hcm : decide (cmpI (x.natAbs : Int) (y.natAbs : Int) < 0) = true := by unfold cmpI; simp; split <;> (try split) <;> omega
  have HLE := hid (Nat.le_of_lt hge)
  have hnn : (zneg x = true ∧ zneg y = false) ∨ (zneg x = false ∧ zneg y = true) := by cases h : zneg x <;> cases h' : zneg y <;> simp_all
  clear hs hge hsum
  rcases hnn with ⟨e1, e2⟩ | ⟨e1, e2⟩
  · rw [e2] at hfin ⊢
    rw [e1]
    clear e1 e2
    go_enter Tryd.func105, Tryd.ntmps105
    go_wp2_with fail
    refine (size_any _ _ _ _ _ _ _ (h0.below (by go_grown)).ns (h1.below (by go_grown)).ns).mono ?_
    rintro e w1 ⟨rfl, nq, hq⟩
    have yA : ZL 40 w1 w.heap.size true (.slice a0 (zl x).length c0) := by rw [hq]; exact (((ZL.made rfl).alloc _).alloc _)
    have yB : ZL 40 w1 (w.heap.size + 1) false (.slice a1 (zl y).length c1) := by rw [hq]; exact ((ZL.made (by simp)).alloc _)
    have yR : ZL 40 w1 (w.heap.size + 1 + 1) false (.slice none 0 0) := by rw [hq]; exact (ZL.made (by simp))
    have yb : Below w.heap.size w w1 := by rw [hq]; (repeat' (first | (with_reducible exact Below.refl _ _) | (with_reducible assumption) | (with_reducible refine below_drewN ?_ _) | (with_reducible refine Below.drew ?_) | (with_reducible refine Below.alloc ?_ ?_ _) | (with_reducible refine Below.setCell ?_ ?_ _) | go_size))
    have hz : w1.heap.size = w.heap.size + 1 + 1 + 1 := by rw [hq]; simp
    clear hq
    have HZ := hid hz
    clear hz
    obtain ⟨kA0, kA1, fA0, fA1, -⟩ := id yA
    obtain ⟨kB0, kB1, fB0, fB1, -⟩ := id yB
    go_wp2_with fail
    rw [HZ.out]
    clear kA0 kA1 fA0 fA1 kB0 kB1 fB0 fB1
    go_loopw [6, 7] (fun c i wr => ∃ (k bb : Nat) (Q : List Nat) (v : Value), i = .int .i64 k ∧ c = .int .i64 (-(bb : Int)) ∧ bb ≤ 1 ∧ k ≤ (zl y).length ∧ Q.length = k ∧ Dec Q ∧ dval ((zl y).take k) + 10000 ^ k * bb = dval Q + dval ((zl x).take k) ∧ Own (w.heap.size + 1 + 1 + 1 + 1) 3 .i64 wr v Q ∧ ZL 40 wr w.heap.size false (.slice a1 (zl y).length c1) ∧ ZL 40 wr (w.heap.size + 1) true (.slice a0 (zl x).length c0) ∧ ZL 40 wr (w.heap.size + 1 + 1) false (.slice none 0 0) ∧ ZL 40 wr (w.heap.size + 1 + 1 + 1) false v ∧ Below w.heap.size w wr) (fun _ i _ => (zl y).length + (zl x).length + 2 - (intOf i).toNat)
    case atStart =>
      exact ⟨0, 0, [], _, rfl, by rfl, by omega, by omega, rfl, AllLt.nil, by simp [dval, val], Own.nil, ((((yA.set0 _).set1 _).far _ _ (by simp)).far _ _ (by simp)).alloc _, ((((yB.far _ _ (by simp)).far _ _ (by simp)).set0 _).set1 _).alloc _, ((((yR.far _ _ (by simp; omega)).far _ _ (by simp; omega)).far _ _ (by simp)).far _ _ (by simp)).alloc _, ZL.made (by simp; exact HZ.out.symm), ((((yb.setCell (by simp) _).setCell (by simp) _).setCell (by simp) _).setCell (by simp) _).alloc (by simp; exact yb.size) _⟩
    case round =>
      obtain ⟨k, bb, Q, v, rfl, rfl, hbb, hk, hQ, lQ, hv, hown, zA, zB, zR, zO, hb⟩ := hrel
      have HQ := hid hQ
      have HV := hid hv
      clear hQ hv
      have hsz := zO.lt
      obtain ⟨kA0, kA1, -, -, -⟩ := id zA
      obtain ⟨kB0, kB1, -, -, -⟩ := id zB
      obtain ⟨kO0, kO1, fO0, fO1, -⟩ := id zO
      by_cases hka : k < (zl y).length
      · obtain ⟨b0, o0, rfl, hc0⟩ := n1.2.2 (by omega)
        obtain ⟨dx, hdx⟩ : ∃ z, z = (zl y).getD k 0 := ⟨_, rfl⟩
        have hdx1 : dx < 10000 := by rw [hdx]; exact lb_dec _ (zl_dec _) k
        have hcellX : wr.cell? ⟨b0, o0 + k, none⟩ = some (.int .i64 (dx : Int)) := by
          have h1 := hc0 k (by omega)
          have h2 := hb.cell (p := ⟨b0, o0 + k, none⟩) (World.block_lt_of_cell? w _ h1)
          rw [h2, h1, hdx]; rfl
        clear hc0
        by_cases hkb : k < (zl x).length
        · obtain ⟨b1, o1, rfl, hc1⟩ := n0.2.2 (by omega)
          obtain ⟨dy, hdy⟩ : ∃ z, z = (zl x).getD k 0 := ⟨_, rfl⟩
          have hdy1 : dy < 10000 := by rw [hdy]; exact lb_dec _ (zl_dec _) k
          have hcellY : wr.cell? ⟨b1, o1 + k, none⟩ = some (.int .i64 (dy : Int)) := by
            have h1 := hc1 k (by omega)
            have h2 := hb.cell (p := ⟨b1, o1 + k, none⟩) (World.block_lt_of_cell? w _ h1)
            rw [h2, h1, hdy]; rfl
          clear hc1
          have HX := hid hdx
          have HY := hid hdy
          clear hdx hdy
          by_cases hsum : bb + dy ≤ dx
          · go_wp2_with (at_builtin; refine wpList_push ei_int (by omega) rfl _ _ rfl (w.heap.size + 1 + 1 + 1 + 1) Q (dx - (bb + dy)) _ rfl (Own.alloc hown _) ⟨wr.heap.size, 0, none⟩ rfl (cell_push _ _ _ _ _ (by omega)) (by rw [HQ.out]; omega) (by simp; omega) ?_; intro v1 w1 hown1 hb1; obtain ⟨ao1, nn1, cap1, rfl⟩ := hown1.slice; obtain ⟨hc1, hf1⟩ := bcellB hb1)
            clear hsum
            go_roundw
            case rel => exact ⟨k + 1, 0, Q ++ [dx - (bb + dy)], .slice ao1 nn1 cap1, by go_num, by go_num, by omega, by omega, by rw [List.length_append, HQ.out]; rfl, AllLt.append.2 ⟨lQ, AllLt.cons.2 ⟨by omega, AllLt.nil⟩⟩, by
                have := dec_sub_step (x := dx) (y := dy) (d := dx - (bb + dy)) (b' := 0) HV.out (by omega)
                unfold dval at *
                rw [val_snoc, HQ.out, take_step, take_step, ← HX.out, ← HY.out]; exact this,
                hown1.set_other _ (by simp) _, ((zA.alloc _).belowB hb1 (by omega)).far _ _ (by simp; omega), ((zB.alloc _).belowB hb1 (by omega)).far _ _ (by simp), ((zR.alloc _).belowB hb1 (by omega)).far _ _ (by simp), ((zO.alloc _).belowB hb1 (by omega)).set1 _,
                ((hb.trans ((below_alloc wr _).mono hb.size)).trans (hb1.mono (by omega))).setCell (by simp; omega) _⟩
            case measure => simp [intOf]; omega
          · go_wp2_with (at_builtin; refine wpList_push ei_int (by omega) rfl _ _ rfl (w.heap.size + 1 + 1 + 1 + 1) Q (dx + 10000 - (bb + dy)) _ rfl (Own.alloc hown _) ⟨wr.heap.size, 0, none⟩ rfl (cell_push _ _ _ _ _ (by omega)) (by rw [HQ.out]; omega) (by simp; omega) ?_; intro v1 w1 hown1 hb1; obtain ⟨ao1, nn1, cap1, rfl⟩ := hown1.slice; obtain ⟨hc1, hf1⟩ := bcellB hb1)
            go_roundw
            case rel => exact ⟨k + 1, 1, Q ++ [dx + 10000 - (bb + dy)], .slice ao1 nn1 cap1, by go_num, by go_num, by omega, by omega, by rw [List.length_append, HQ.out]; rfl, AllLt.append.2 ⟨lQ, AllLt.cons.2 ⟨by omega, AllLt.nil⟩⟩, by
                have := dec_sub_step (x := dx) (y := dy) (d := dx + 10000 - (bb + dy)) (b' := 1) HV.out (by omega)
                unfold dval at *
                rw [val_snoc, HQ.out, take_step, take_step, ← HX.out, ← HY.out]; exact this,
                hown1.set_other _ (by simp) _, ((zA.alloc _).belowB hb1 (by omega)).far _ _ (by simp; omega), ((zB.alloc _).belowB hb1 (by omega)).far _ _ (by simp), ((zR.alloc _).belowB hb1 (by omega)).far _ _ (by simp), ((zO.alloc _).belowB hb1 (by omega)).set1 _,
                ((hb.trans ((below_alloc wr _).mono hb.size)).trans (hb1.mono (by omega))).setCell (by simp; omega) _⟩
            case measure => simp [intOf]; omega
        · have hdy : 0 = (zl x).getD k 0 := (getD_out _ _ (by omega)).symm
          have HX := hid hdx
          have HY := hid hdy
          clear hdx hdy
          by_cases hsum : bb ≤ dx
          · go_wp2_with (at_builtin; refine wpList_push ei_int (by omega) rfl _ _ rfl (w.heap.size + 1 + 1 + 1 + 1) Q (dx - (bb)) _ rfl (Own.alloc hown _) ⟨wr.heap.size, 0, none⟩ rfl (cell_push _ _ _ _ _ (by omega)) (by rw [HQ.out]; omega) (by simp; omega) ?_; intro v1 w1 hown1 hb1; obtain ⟨ao1, nn1, cap1, rfl⟩ := hown1.slice; obtain ⟨hc1, hf1⟩ := bcellB hb1)
            clear hsum
            go_roundw
            case rel => exact ⟨k + 1, 0, Q ++ [dx - (bb)], .slice ao1 nn1 cap1, by go_num, by go_num, by omega, by omega, by rw [List.length_append, HQ.out]; rfl, AllLt.append.2 ⟨lQ, AllLt.cons.2 ⟨by omega, AllLt.nil⟩⟩, by
                have := dec_sub_step (x := dx) (y := 0) (d := dx - (bb)) (b' := 0) HV.out (by omega)
                unfold dval at *
                rw [val_snoc, HQ.out, take_step, take_step, ← HX.out, ← HY.out]; exact this,
                hown1.set_other _ (by simp) _, ((zA.alloc _).belowB hb1 (by omega)).far _ _ (by simp; omega), ((zB.alloc _).belowB hb1 (by omega)).far _ _ (by simp), ((zR.alloc _).belowB hb1 (by omega)).far _ _ (by simp), ((zO.alloc _).belowB hb1 (by omega)).set1 _,
                ((hb.trans ((below_alloc wr _).mono hb.size)).trans (hb1.mono (by omega))).setCell (by simp; omega) _⟩
            case measure => simp [intOf]; omega
          · go_wp2_with (at_builtin; refine wpList_push ei_int (by omega) rfl _ _ rfl (w.heap.size + 1 + 1 + 1 + 1) Q (dx + 10000 - (bb)) _ rfl (Own.alloc hown _) ⟨wr.heap.size, 0, none⟩ rfl (cell_push _ _ _ _ _ (by omega)) (by rw [HQ.out]; omega) (by simp; omega) ?_; intro v1 w1 hown1 hb1; obtain ⟨ao1, nn1, cap1, rfl⟩ := hown1.slice; obtain ⟨hc1, hf1⟩ := bcellB hb1)
            go_roundw
            case rel => exact ⟨k + 1, 1, Q ++ [dx + 10000 - (bb)], .slice ao1 nn1 cap1, by go_num, by go_num, by omega, by omega, by rw [List.length_append, HQ.out]; rfl, AllLt.append.2 ⟨lQ, AllLt.cons.2 ⟨by omega, AllLt.nil⟩⟩, by
                have := dec_sub_step (x := dx) (y := 0) (d := dx + 10000 - (bb)) (b' := 1) HV.out (by omega)
                unfold dval at *
                rw [val_snoc, HQ.out, take_step, take_step, ← HX.out, ← HY.out]; exact this,
                hown1.set_other _ (by simp) _, ((zA.alloc _).belowB hb1 (by omega)).far _ _ (by simp; omega), ((zB.alloc _).belowB hb1 (by omega)).far _ _ (by simp), ((zR.alloc _).belowB hb1 (by omega)).far _ _ (by simp), ((zO.alloc _).belowB hb1 (by omega)).set1 _,
                ((hb.trans ((below_alloc wr _).mono hb.size)).trans (hb1.mono (by omega))).setCell (by simp; omega) _⟩
            case measure => simp [intOf]; omega
      · have hke : k = (zl y).length := by omega
        have hval : zof false (dval Q) = hsumV := by
          have := HV.out
          rw [hke, List.take_of_length_le (Nat.le_refl _), List.take_of_length_le hlen, dval_zl, dval_zl, ← hke] at this
          rw [dec_sub_end this hbb (by have := dval_lt Q lQ; rwa [HQ.out] at this) HLE.out]; exact hfin.out
        have HF := hid hval
        clear hval hke
        obtain ⟨ao1, cap1, rfl, hN1⟩ := hown.nz
        go_wp2_with fail
        have hfr : ∀ p, ao1 = some p → w.heap.size ≤ p.block := fun p hp => Nat.le_trans (by omega) (hown.fresh p hp)
        refine (trim_at _ _ _ _ _ hN1 lQ).mono ?_
        rw [HF.out]
        rintro e w2 ⟨cap2, rfl, hN2, hb2⟩
        have zR2 := zR.below hb2
        have k0 := zR2.1
        have k1 := zR2.2.1
        have f0 := zR2.2.2.1
        have f1 := zR2.2.2.2.1
        have hs2 := zR2.2.2.2.2
        go_wp2_with fail
        refine bodyPost_ret (by simp [results, Tryd.results105, go_sem, k0, k1]; try rfl) rfl ?_
        exact ⟨_, _, rfl, (hN2.setCell hs2 (by decide) _ _).setCell (hs2.setCell _ _) (by decide) _ _, ((below_trans hb hb2).setCell (by simp; omega) _).setCell (by simp; omega) _, hfr⟩
  · rw [e2] at hfin ⊢
    rw [e1]
    clear e1 e2
    go_enter Tryd.func105, Tryd.ntmps105
    go_wp2_with fail
    refine (size_any _ _ _ _ _ _ _ (h0.below (by go_grown)).ns (h1.below (by go_grown)).ns).mono ?_
    rintro e w1 ⟨rfl, nq, hq⟩
    have yA : ZL 40 w1 w.heap.size false (.slice a0 (zl x).length c0) := by rw [hq]; exact (((ZL.made rfl).alloc _).alloc _)
    have yB : ZL 40 w1 (w.heap.size + 1) true (.slice a1 (zl y).length c1) := by rw [hq]; exact ((ZL.made (by simp)).alloc _)
    have yR : ZL 40 w1 (w.heap.size + 1 + 1) false (.slice none 0 0) := by rw [hq]; exact (ZL.made (by simp))
    have yb : Below w.heap.size w w1 := by rw [hq]; (repeat' (first | (with_reducible exact Below.refl _ _) | (with_reducible assumption) | (with_reducible refine below_drewN ?_ _) | (with_reducible refine Below.drew ?_) | (with_reducible refine Below.alloc ?_ ?_ _) | (with_reducible refine Below.setCell ?_ ?_ _) | go_size))
    have hz : w1.heap.size = w.heap.size + 1 + 1 + 1 := by rw [hq]; simp
    clear hq
    have HZ := hid hz
    clear hz
    obtain ⟨kA0, kA1, fA0, fA1, -⟩ := id yA
    obtain ⟨kB0, kB1, fB0, fB1, -⟩ := id yB
    go_wp2_with fail
    rw [HZ.out]
    clear kA0 kA1 fA0 fA1 kB0 kB1 fB0 fB1
    go_loopw [6, 7] (fun c i wr => ∃ (k bb : Nat) (Q : List Nat) (v : Value), i = .int .i64 k ∧ c = .int .i64 (-(bb : Int)) ∧ bb ≤ 1 ∧ k ≤ (zl y).length ∧ Q.length = k ∧ Dec Q ∧ dval ((zl y).take k) + 10000 ^ k * bb = dval Q + dval ((zl x).take k) ∧ Own (w.heap.size + 1 + 1 + 1 + 1) 3 .i64 wr v Q ∧ ZL 40 wr w.heap.size true (.slice a1 (zl y).length c1) ∧ ZL 40 wr (w.heap.size + 1) false (.slice a0 (zl x).length c0) ∧ ZL 40 wr (w.heap.size + 1 + 1) false (.slice none 0 0) ∧ ZL 40 wr (w.heap.size + 1 + 1 + 1) true v ∧ Below w.heap.size w wr) (fun _ i _ => (zl y).length + (zl x).length + 2 - (intOf i).toNat)
    case atStart =>
      exact ⟨0, 0, [], _, rfl, by rfl, by omega, by omega, rfl, AllLt.nil, by simp [dval, val], Own.nil, ((((yA.set0 _).set1 _).far _ _ (by simp)).far _ _ (by simp)).alloc _, ((((yB.far _ _ (by simp)).far _ _ (by simp)).set0 _).set1 _).alloc _, ((((yR.far _ _ (by simp; omega)).far _ _ (by simp; omega)).far _ _ (by simp)).far _ _ (by simp)).alloc _, ZL.made (by simp; exact HZ.out.symm), ((((yb.setCell (by simp) _).setCell (by simp) _).setCell (by simp) _).setCell (by simp) _).alloc (by simp; exact yb.size) _⟩
    case round =>
      obtain ⟨k, bb, Q, v, rfl, rfl, hbb, hk, hQ, lQ, hv, hown, zA, zB, zR, zO, hb⟩ := hrel
      have HQ := hid hQ
      have HV := hid hv
      clear hQ hv
      have hsz := zO.lt
      obtain ⟨kA0, kA1, -, -, -⟩ := id zA
      obtain ⟨kB0, kB1, -, -, -⟩ := id zB
      obtain ⟨kO0, kO1, fO0, fO1, -⟩ := id zO
      by_cases hka : k < (zl y).length
      · obtain ⟨b0, o0, rfl, hc0⟩ := n1.2.2 (by omega)
        obtain ⟨dx, hdx⟩ : ∃ z, z = (zl y).getD k 0 := ⟨_, rfl⟩
        have hdx1 : dx < 10000 := by rw [hdx]; exact lb_dec _ (zl_dec _) k
        have hcellX : wr.cell? ⟨b0, o0 + k, none⟩ = some (.int .i64 (dx : Int)) := by
          have h1 := hc0 k (by omega)
          have h2 := hb.cell (p := ⟨b0, o0 + k, none⟩) (World.block_lt_of_cell? w _ h1)
          rw [h2, h1, hdx]; rfl
        clear hc0
        by_cases hkb : k < (zl x).length
        · obtain ⟨b1, o1, rfl, hc1⟩ := n0.2.2 (by omega)
          obtain ⟨dy, hdy⟩ : ∃ z, z = (zl x).getD k 0 := ⟨_, rfl⟩
          have hdy1 : dy < 10000 := by rw [hdy]; exact lb_dec _ (zl_dec _) k
          have hcellY : wr.cell? ⟨b1, o1 + k, none⟩ = some (.int .i64 (dy : Int)) := by
            have h1 := hc1 k (by omega)
            have h2 := hb.cell (p := ⟨b1, o1 + k, none⟩) (World.block_lt_of_cell? w _ h1)
            rw [h2, h1, hdy]; rfl
          clear hc1
          have HX := hid hdx
          have HY := hid hdy
          clear hdx hdy
          by_cases hsum : bb + dy ≤ dx
          · go_wp2_with (at_builtin; refine wpList_push ei_int (by omega) rfl _ _ rfl (w.heap.size + 1 + 1 + 1 + 1) Q (dx - (bb + dy)) _ rfl (Own.alloc hown _) ⟨wr.heap.size, 0, none⟩ rfl (cell_push _ _ _ _ _ (by omega)) (by rw [HQ.out]; omega) (by simp; omega) ?_; intro v1 w1 hown1 hb1; obtain ⟨ao1, nn1, cap1, rfl⟩ := hown1.slice; obtain ⟨hc1, hf1⟩ := bcellB hb1)
            clear hsum
            go_roundw
            case rel => exact ⟨k + 1, 0, Q ++ [dx - (bb + dy)], .slice ao1 nn1 cap1, by go_num, by go_num, by omega, by omega, by rw [List.length_append, HQ.out]; rfl, AllLt.append.2 ⟨lQ, AllLt.cons.2 ⟨by omega, AllLt.nil⟩⟩, by
                have := dec_sub_step (x := dx) (y := dy) (d := dx - (bb + dy)) (b' := 0) HV.out (by omega)
                unfold dval at *
                rw [val_snoc, HQ.out, take_step, take_step, ← HX.out, ← HY.out]; exact this,
                hown1.set_other _ (by simp) _, ((zA.alloc _).belowB hb1 (by omega)).far _ _ (by simp; omega), ((zB.alloc _).belowB hb1 (by omega)).far _ _ (by simp), ((zR.alloc _).belowB hb1 (by omega)).far _ _ (by simp), ((zO.alloc _).belowB hb1 (by omega)).set1 _,
                ((hb.trans ((below_alloc wr _).mono hb.size)).trans (hb1.mono (by omega))).setCell (by simp; omega) _⟩
            case measure => simp [intOf]; omega
          · go_wp2_with (at_builtin; refine wpList_push ei_int (by omega) rfl _ _ rfl (w.heap.size + 1 + 1 + 1 + 1) Q (dx + 10000 - (bb + dy)) _ rfl (Own.alloc hown _) ⟨wr.heap.size, 0, none⟩ rfl (cell_push _ _ _ _ _ (by omega)) (by rw [HQ.out]; omega) (by simp; omega) ?_; intro v1 w1 hown1 hb1; obtain ⟨ao1, nn1, cap1, rfl⟩ := hown1.slice; obtain ⟨hc1, hf1⟩ := bcellB hb1)
            go_roundw
            case rel => exact ⟨k + 1, 1, Q ++ [dx + 10000 - (bb + dy)], .slice ao1 nn1 cap1, by go_num, by go_num, by omega, by omega, by rw [List.length_append, HQ.out]; rfl, AllLt.append.2 ⟨lQ, AllLt.cons.2 ⟨by omega, AllLt.nil⟩⟩, by
                have := dec_sub_step (x := dx) (y := dy) (d := dx + 10000 - (bb + dy)) (b' := 1) HV.out (by omega)
                unfold dval at *
                rw [val_snoc, HQ.out, take_step, take_step, ← HX.out, ← HY.out]; exact this,
                hown1.set_other _ (by simp) _, ((zA.alloc _).belowB hb1 (by omega)).far _ _ (by simp; omega), ((zB.alloc _).belowB hb1 (by omega)).far _ _ (by simp), ((zR.alloc _).belowB hb1 (by omega)).far _ _ (by simp), ((zO.alloc _).belowB hb1 (by omega)).set1 _,
                ((hb.trans ((below_alloc wr _).mono hb.size)).trans (hb1.mono (by omega))).setCell (by simp; omega) _⟩
            case measure => simp [intOf]; omega
        · have hdy : 0 = (zl x).getD k 0 := (getD_out _ _ (by omega)).symm
          have HX := hid hdx
          have HY := hid hdy
          clear hdx hdy
          by_cases hsum : bb ≤ dx
          · go_wp2_with (at_builtin; refine wpList_push ei_int (by omega) rfl _ _ rfl (w.heap.size + 1 + 1 + 1 + 1) Q (dx - (bb)) _ rfl (Own.alloc hown _) ⟨wr.heap.size, 0, none⟩ rfl (cell_push _ _ _ _ _ (by omega)) (by rw [HQ.out]; omega) (by simp; omega) ?_; intro v1 w1 hown1 hb1; obtain ⟨ao1, nn1, cap1, rfl⟩ := hown1.slice; obtain ⟨hc1, hf1⟩ := bcellB hb1)
            clear hsum
            go_roundw
            case rel => exact ⟨k + 1, 0, Q ++ [dx - (bb)], .slice ao1 nn1 cap1, by go_num, by go_num, by omega, by omega, by rw [List.length_append, HQ.out]; rfl, AllLt.append.2 ⟨lQ, AllLt.cons.2 ⟨by omega, AllLt.nil⟩⟩, by
                have := dec_sub_step (x := dx) (y := 0) (d := dx - (bb)) (b' := 0) HV.out (by omega)
                unfold dval at *
                rw [val_snoc, HQ.out, take_step, take_step, ← HX.out, ← HY.out]; exact this,
                hown1.set_other _ (by simp) _, ((zA.alloc _).belowB hb1 (by omega)).far _ _ (by simp; omega), ((zB.alloc _).belowB hb1 (by omega)).far _ _ (by simp), ((zR.alloc _).belowB hb1 (by omega)).far _ _ (by simp), ((zO.alloc _).belowB hb1 (by omega)).set1 _,
                ((hb.trans ((below_alloc wr _).mono hb.size)).trans (hb1.mono (by omega))).setCell (by simp; omega) _⟩
            case measure => simp [intOf]; omega
          · go_wp2_with (at_builtin; refine wpList_push ei_int (by omega) rfl _ _ rfl (w.heap.size + 1 + 1 + 1 + 1) Q (dx + 10000 - (bb)) _ rfl (Own.alloc hown _) ⟨wr.heap.size, 0, none⟩ rfl (cell_push _ _ _ _ _ (by omega)) (by rw [HQ.out]; omega) (by simp; omega) ?_; intro v1 w1 hown1 hb1; obtain ⟨ao1, nn1, cap1, rfl⟩ := hown1.slice; obtain ⟨hc1, hf1⟩ := bcellB hb1)
            go_roundw
            case rel => exact ⟨k + 1, 1, Q ++ [dx + 10000 - (bb)], .slice ao1 nn1 cap1, by go_num, by go_num, by omega, by omega, by rw [List.length_append, HQ.out]; rfl, AllLt.append.2 ⟨lQ, AllLt.cons.2 ⟨by omega, AllLt.nil⟩⟩, by
                have := dec_sub_step (x := dx) (y := 0) (d := dx + 10000 - (bb)) (b' := 1) HV.out (by omega)
                unfold dval at *
                rw [val_snoc, HQ.out, take_step, take_step, ← HX.out, ← HY.out]; exact this,
                hown1.set_other _ (by simp) _, ((zA.alloc _).belowB hb1 (by omega)).far _ _ (by simp; omega), ((zB.alloc _).belowB hb1 (by omega)).far _ _ (by simp), ((zR.alloc _).belowB hb1 (by omega)).far _ _ (by simp), ((zO.alloc _).belowB hb1 (by omega)).set1 _,
                ((hb.trans ((below_alloc wr _).mono hb.size)).trans (hb1.mono (by omega))).setCell (by simp; omega) _⟩
            case measure => simp [intOf]; omega
      · have hke : k = (zl y).length := by omega
        have hval : zof true (dval Q) = hsumV := by
          have := HV.out
          rw [hke, List.take_of_length_le (Nat.le_refl _), List.take_of_length_le hlen, dval_zl, dval_zl, ← hke] at this
          rw [dec_sub_end this hbb (by have := dval_lt Q lQ; rwa [HQ.out] at this) HLE.out]; exact hfin.out
        have HF := hid hval
        clear hval hke
        obtain ⟨ao1, cap1, rfl, hN1⟩ := hown.nz
        go_wp2_with fail
        have hfr : ∀ p, ao1 = some p → w.heap.size ≤ p.block := fun p hp => Nat.le_trans (by omega) (hown.fresh p hp)
        refine (trim_at _ _ _ _ _ hN1 lQ).mono ?_
        rw [HF.out]
        rintro e w2 ⟨cap2, rfl, hN2, hb2⟩
        have zR2 := zR.below hb2
        have k0 := zR2.1
        have k1 := zR2.2.1
        have f0 := zR2.2.2.1
        have f1 := zR2.2.2.2.1
        have hs2 := zR2.2.2.2.2
        go_wp2_with fail
        refine bodyPost_ret (by simp [results, Tryd.results105, go_sem, k0, k1]; try rfl) rfl ?_
        exact ⟨_, _, rfl, (hN2.setCell hs2 (by decide) _ _).setCell (hs2.setCell _ _) (by decide) _ _, ((below_trans hb hb2).setCell (by simp; omega) _).setCell (by simp; omega) _, hfr⟩

theorem zadd_fresh (a0 a1 : Option Addr) (c0 c1 : Nat) (x y : Int) (w : World) (h0 : Nz 3 w a0 c0 (zl x)) (h1 : Nz 3 w a1 c1 (zl y)) (hl0 : (zl x).length ≤ 4294967296) (hl1 : (zl y).length ≤ 4294967296) :
    Calls Tryd.prog 105 #[.agg #[.bool (zneg x), .slice a0 (zl x).length c0], .agg #[.bool (zneg y), .slice a1 (zl y).length c1]] w fun e w' => RetZF 3 w (x + y) e w' := by
  by_cases hs : zneg x = zneg y
  · exact zadd_same a0 a1 c0 c1 x y w h0 h1 hl0 hl1 hs
  · rcases Nat.lt_or_ge x.natAbs y.natAbs with h | h
    · exact zadd_lt a0 a1 c0 c1 x y w h0 h1 hl1 hs h _ rfl
    · exact zadd_ge a0 a1 c0 c1 x y w h0 h1 hl0 hs h _ rfl
theorem zadd_any (a0 a1 : Option Addr) (c0 c1 : Nat) (x y : Int) (w : World) (h0 : Nz 3 w a0 c0 (zl x)) (h1 : Nz 3 w a1 c1 (zl y)) (hl0 : (zl x).length ≤ 4294967296) (hl1 : (zl y).length ≤ 4294967296) :
    Calls Tryd.prog 105 #[.agg #[.bool (zneg x), .slice a0 (zl x).length c0], .agg #[.bool (zneg y), .slice a1 (zl y).length c1]] w fun e w' => RetZ 3 w (x + y) e w' :=
  (zadd_fresh a0 a1 c0 c1 x y w h0 h1 hl0 hl1).mono fun _ _ h => h.any
end Go.Proofs.YteaakbeemhmciaaDoor
