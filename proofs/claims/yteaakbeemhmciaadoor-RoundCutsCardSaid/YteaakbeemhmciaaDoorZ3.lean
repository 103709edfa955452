/- The reference's whole numbers: sums. -/
import Derived.Test.YteaakbeemhmciaaDoorZ2
namespace Go.Ulp
open Go.RowKit
theorem bcellB {B : Nat} {W w1 : World} (hb : Below B W w1) : (∀ b o, b < B → w1.cell? ⟨b, o, none⟩ = W.cell? ⟨b, o, none⟩) ∧ (∀ b o, b < B → w1.frozen? ⟨b, o, none⟩ = W.frozen? ⟨b, o, none⟩) :=
  ⟨fun b o h => hb.cell (p := ⟨b, o, none⟩) h, fun b o h => hb.frozen (p := ⟨b, o, none⟩) h⟩
theorem dec_add_step {q c L M k x y d c' : Nat} (h : q + 10000 ^ k * c = L + M) (hd : d + 10000 * c' = c + x + y) : (q + 10000 ^ k * d) + 10000 ^ (k + 1) * c' = (L + 10000 ^ k * x) + (M + 10000 ^ k * y) := by
  have e := congrArg (fun z => 10000 ^ k * z) hd
  simp only [Nat.mul_add] at e
  rw [Nat.pow_succ, Nat.mul_assoc]; omega
theorem lb_dec (L : List Nat) (h : Dec L) (k : Nat) : L.getD k 0 < 10000 := h.getD (by omega) k
theorem getD_take_le (L : List Nat) (k : Nat) (h : k ≤ L.length) (B : Nat) : val B (L.take (k + 1)) = val B (L.take k) + B ^ k * L.getD k 0 := by
  by_cases hk : k < L.length
  · exact val_take_succ B L k hk
  · rw [List.take_of_length_le (by omega), List.take_of_length_le (by omega), getD_out _ _ (by omega)]; simp
theorem take_step (L : List Nat) (k : Nat) (B : Nat) : val B (L.take (k + 1)) = val B (L.take k) + B ^ k * L.getD k 0 := by
  by_cases hk : k < L.length
  · exact val_take_succ B L k hk
  · rw [List.take_of_length_le (by omega), List.take_of_length_le (by omega), getD_out _ _ (by omega)]; simp
end Go.Ulp
namespace Go.Proofs.YteaakbeemhmciaaDoor
open Go.RowKit Go.Ulp
set_option linter.unusedVariables false
set_option linter.unusedSimpArgs false
set_option maxHeartbeats 1000000
set_option maxRecDepth 100000
theorem zadd_same (a0 a1 : Option Addr) (c0 c1 : Nat) (x y : Int) (w : World) (h0 : Nz 3 w a0 c0 (zl x)) (h1 : Nz 3 w a1 c1 (zl y)) (hl0 : (zl x).length ≤ 4294967296) (hl1 : (zl y).length ≤ 4294967296) (hs : zneg x = zneg y) :
    Calls Tryd.prog 105 #[.agg #[.bool (zneg x), .slice a0 (zl x).length c0], .agg #[.bool (zneg y), .slice a1 (zl y).length c1]] w fun e w' => RetZF 3 w (x + y) e w' := by
  have hfin := hid (show zof (zneg x) (x.natAbs + y.natAbs) = x + y by
    unfold zneg at hs; unfold zof zneg; by_cases h : x < 0 <;> by_cases h' : y < 0 <;> simp [h, h'] at hs ⊢ <;> omega)
  have n0 := h0.ns
  have n1 := h1.ns
  obtain ⟨na, hna⟩ : ∃ na, na = zneg x := ⟨_, rfl⟩
  rw [← hs, ← hna]
  rw [← hna] at hfin
  clear hs hna
  go_enter Tryd.func105, Tryd.ntmps105
  go_wp2_with fail
  go_loopw [6, 7] (fun c i wr => ∃ (k cc : Nat) (Q : List Nat) (v : Value), i = .int .i64 k ∧ c = .int .i64 cc ∧ cc ≤ 1 ∧ (k ≤ (zl x).length ∨ k ≤ (zl y).length ∨ (cc = 0 ∧ k ≤ (zl x).length + (zl y).length + 1)) ∧ Q.length = k ∧ Dec Q ∧ dval Q + 10000 ^ k * cc = dval ((zl x).take k) + dval ((zl y).take k) ∧ Own (w.heap.size + 1 + 1 + 1 + 1) 3 .i64 wr v Q ∧ ZL 40 wr w.heap.size na (.slice a0 (zl x).length c0) ∧ ZL 40 wr (w.heap.size + 1) na (.slice a1 (zl y).length c1) ∧ ZL 40 wr (w.heap.size + 1 + 1) false (.slice none 0 0) ∧ ZL 40 wr (w.heap.size + 1 + 1 + 1) na v ∧ Below w.heap.size w wr) (fun _ i _ => (zl x).length + (zl y).length + 2 - (intOf i).toNat)
  case atStart =>
    exact ⟨0, 0, [], _, rfl, rfl, by omega, by omega, rfl, AllLt.nil, by simp [dval, val], Own.nil, (((ZL.made rfl).alloc _).alloc _).alloc _, ((ZL.made (by simp)).alloc _).alloc _, (ZL.made (by simp)).alloc _, ZL.made (by simp), by go_grown⟩
  case round =>
    obtain ⟨k, cc, Q, v, rfl, rfl, hcc, hk, hQ, lQ, hv, hown, zA, zB, zR, zO, hb⟩ := hrel
    have HQ := hid hQ
    have HV := hid hv
    clear hQ hv
    have hsz := zO.lt
    obtain ⟨kA0, kA1, -, -, -⟩ := id zA
    obtain ⟨kB0, kB1, -, -, -⟩ := id zB
    obtain ⟨kO0, kO1, fO0, fO1, -⟩ := id zO
    by_cases hka : k < (zl x).length
    · obtain ⟨b0, o0, rfl, hc0⟩ := n0.2.2 (by omega)
      obtain ⟨dx, hdx⟩ : ∃ z, z = (zl x).getD k 0 := ⟨_, rfl⟩
      have hdx1 : dx < 10000 := by rw [hdx]; exact lb_dec _ (zl_dec _) k
      have hcellX : wr.cell? ⟨b0, o0 + k, none⟩ = some (.int .i64 (dx : Int)) := by
        have h1 := hc0 k (by omega)
        have h2 := hb.cell (p := ⟨b0, o0 + k, none⟩) (World.block_lt_of_cell? w _ h1)
        rw [h2, h1, hdx]; rfl
      clear hc0
      by_cases hkb : k < (zl y).length
      · obtain ⟨b1, o1, rfl, hc1⟩ := n1.2.2 (by omega)
        obtain ⟨dy, hdy⟩ : ∃ z, z = (zl y).getD k 0 := ⟨_, rfl⟩
        have hdy1 : dy < 10000 := by rw [hdy]; exact lb_dec _ (zl_dec _) k
        have hcellY : wr.cell? ⟨b1, o1 + k, none⟩ = some (.int .i64 (dy : Int)) := by
          have h1 := hc1 k (by omega)
          have h2 := hb.cell (p := ⟨b1, o1 + k, none⟩) (World.block_lt_of_cell? w _ h1)
          rw [h2, h1, hdy]; rfl
        clear hc1
        have HX := hid hdx
        have HY := hid hdy
        clear hdx hdy
        by_cases hsum : cc + dx + dy < 10000
        · go_wp2_with (at_builtin; refine wpList_push ei_int (by omega) rfl _ _ rfl (w.heap.size + 1 + 1 + 1 + 1) Q (cc + dx + dy) _ rfl (Own.alloc hown _) ⟨wr.heap.size, 0, none⟩ rfl (cell_push _ _ _ _ _ (by omega)) (by rw [HQ.out]; omega) (by simp; omega) ?_; intro v1 w1 hown1 hb1; obtain ⟨ao1, nn1, cap1, rfl⟩ := hown1.slice; obtain ⟨hc1, hf1⟩ := bcellB hb1)
          clear hsum
          go_roundw
          case rel => exact ⟨k + 1, 0, Q ++ [cc + dx + dy], .slice ao1 nn1 cap1, by go_num, by go_num, by omega, by omega, by rw [List.length_append, HQ.out]; rfl, AllLt.append.2 ⟨lQ, AllLt.cons.2 ⟨by omega, AllLt.nil⟩⟩, by
              have := dec_add_step (x := dx) (y := dy) (d := cc + dx + dy) (c' := 0) HV.out (by omega)
              unfold dval at *
              rw [val_snoc, HQ.out, take_step, take_step, ← HX.out, ← HY.out]; exact this,
              hown1.set_other _ (by simp) _, ((zA.alloc _).belowB hb1 (by omega)).far _ _ (by simp; omega), ((zB.alloc _).belowB hb1 (by omega)).far _ _ (by simp), ((zR.alloc _).belowB hb1 (by omega)).far _ _ (by simp), ((zO.alloc _).belowB hb1 (by omega)).set1 _,
              ((hb.trans ((below_alloc wr _).mono hb.size)).trans (hb1.mono (by omega))).setCell (by simp; omega) _⟩
          case measure => simp [intOf]; omega
        · go_wp2_with (at_builtin; refine wpList_push ei_int (by omega) rfl _ _ rfl (w.heap.size + 1 + 1 + 1 + 1) Q (cc + dx + dy - 10000) _ rfl (Own.alloc hown _) ⟨wr.heap.size, 0, none⟩ rfl (cell_push _ _ _ _ _ (by omega)) (by rw [HQ.out]; omega) (by simp; omega) ?_; intro v1 w1 hown1 hb1; obtain ⟨ao1, nn1, cap1, rfl⟩ := hown1.slice; obtain ⟨hc1, hf1⟩ := bcellB hb1)
          clear hsum
          go_roundw
          case rel => exact ⟨k + 1, 1, Q ++ [cc + dx + dy - 10000], .slice ao1 nn1 cap1, by go_num, by go_num, by omega, by omega, by rw [List.length_append, HQ.out]; rfl, AllLt.append.2 ⟨lQ, AllLt.cons.2 ⟨by omega, AllLt.nil⟩⟩, by
              have := dec_add_step (x := dx) (y := dy) (d := cc + dx + dy - 10000) (c' := 1) HV.out (by omega)
              unfold dval at *
              rw [val_snoc, HQ.out, take_step, take_step, ← HX.out, ← HY.out]; exact this,
              hown1.set_other _ (by simp) _, ((zA.alloc _).belowB hb1 (by omega)).far _ _ (by simp; omega), ((zB.alloc _).belowB hb1 (by omega)).far _ _ (by simp), ((zR.alloc _).belowB hb1 (by omega)).far _ _ (by simp), ((zO.alloc _).belowB hb1 (by omega)).set1 _,
              ((hb.trans ((below_alloc wr _).mono hb.size)).trans (hb1.mono (by omega))).setCell (by simp; omega) _⟩
          case measure => simp [intOf]; omega
      · have hdy : 0 = (zl y).getD k 0 := (getD_out _ _ (by omega)).symm
        have HX := hid hdx
        have HY := hid hdy
        clear hdx hdy
        by_cases hsum : cc + dx < 10000
        · go_wp2_with (at_builtin; refine wpList_push ei_int (by omega) rfl _ _ rfl (w.heap.size + 1 + 1 + 1 + 1) Q (cc + dx) _ rfl (Own.alloc hown _) ⟨wr.heap.size, 0, none⟩ rfl (cell_push _ _ _ _ _ (by omega)) (by rw [HQ.out]; omega) (by simp; omega) ?_; intro v1 w1 hown1 hb1; obtain ⟨ao1, nn1, cap1, rfl⟩ := hown1.slice; obtain ⟨hc1, hf1⟩ := bcellB hb1)
          clear hsum
          go_roundw
          case rel => exact ⟨k + 1, 0, Q ++ [cc + dx], .slice ao1 nn1 cap1, by go_num, by go_num, by omega, by omega, by rw [List.length_append, HQ.out]; rfl, AllLt.append.2 ⟨lQ, AllLt.cons.2 ⟨by omega, AllLt.nil⟩⟩, by
              have := dec_add_step (x := dx) (y := 0) (d := cc + dx) (c' := 0) HV.out (by omega)
              unfold dval at *
              rw [val_snoc, HQ.out, take_step, take_step, ← HX.out, ← HY.out]; exact this,
              hown1.set_other _ (by simp) _, ((zA.alloc _).belowB hb1 (by omega)).far _ _ (by simp; omega), ((zB.alloc _).belowB hb1 (by omega)).far _ _ (by simp), ((zR.alloc _).belowB hb1 (by omega)).far _ _ (by simp), ((zO.alloc _).belowB hb1 (by omega)).set1 _,
              ((hb.trans ((below_alloc wr _).mono hb.size)).trans (hb1.mono (by omega))).setCell (by simp; omega) _⟩
          case measure => simp [intOf]; omega
        · go_wp2_with (at_builtin; refine wpList_push ei_int (by omega) rfl _ _ rfl (w.heap.size + 1 + 1 + 1 + 1) Q (cc + dx - 10000) _ rfl (Own.alloc hown _) ⟨wr.heap.size, 0, none⟩ rfl (cell_push _ _ _ _ _ (by omega)) (by rw [HQ.out]; omega) (by simp; omega) ?_; intro v1 w1 hown1 hb1; obtain ⟨ao1, nn1, cap1, rfl⟩ := hown1.slice; obtain ⟨hc1, hf1⟩ := bcellB hb1)
          clear hsum
          go_roundw
          case rel => exact ⟨k + 1, 1, Q ++ [cc + dx - 10000], .slice ao1 nn1 cap1, by go_num, by go_num, by omega, by omega, by rw [List.length_append, HQ.out]; rfl, AllLt.append.2 ⟨lQ, AllLt.cons.2 ⟨by omega, AllLt.nil⟩⟩, by
              have := dec_add_step (x := dx) (y := 0) (d := cc + dx - 10000) (c' := 1) HV.out (by omega)
              unfold dval at *
              rw [val_snoc, HQ.out, take_step, take_step, ← HX.out, ← HY.out]; exact this,
              hown1.set_other _ (by simp) _, ((zA.alloc _).belowB hb1 (by omega)).far _ _ (by simp; omega), ((zB.alloc _).belowB hb1 (by omega)).far _ _ (by simp), ((zR.alloc _).belowB hb1 (by omega)).far _ _ (by simp), ((zO.alloc _).belowB hb1 (by omega)).set1 _,
              ((hb.trans ((below_alloc wr _).mono hb.size)).trans (hb1.mono (by omega))).setCell (by simp; omega) _⟩
          case measure => simp [intOf]; omega
    · have hdx : 0 = (zl x).getD k 0 := (getD_out _ _ (by omega)).symm
      by_cases hkb : k < (zl y).length
      · obtain ⟨b1, o1, rfl, hc1⟩ := n1.2.2 (by omega)
        obtain ⟨dy, hdy⟩ : ∃ z, z = (zl y).getD k 0 := ⟨_, rfl⟩
        have hdy1 : dy < 10000 := by rw [hdy]; exact lb_dec _ (zl_dec _) k
        have hcellY : wr.cell? ⟨b1, o1 + k, none⟩ = some (.int .i64 (dy : Int)) := by
          have h1 := hc1 k (by omega)
          have h2 := hb.cell (p := ⟨b1, o1 + k, none⟩) (World.block_lt_of_cell? w _ h1)
          rw [h2, h1, hdy]; rfl
        clear hc1
        have HX := hid hdx
        have HY := hid hdy
        clear hdx hdy
        by_cases hsum : cc + dy < 10000
        · go_wp2_with (at_builtin; refine wpList_push ei_int (by omega) rfl _ _ rfl (w.heap.size + 1 + 1 + 1 + 1) Q (cc + dy) _ rfl (Own.alloc hown _) ⟨wr.heap.size, 0, none⟩ rfl (cell_push _ _ _ _ _ (by omega)) (by rw [HQ.out]; omega) (by simp; omega) ?_; intro v1 w1 hown1 hb1; obtain ⟨ao1, nn1, cap1, rfl⟩ := hown1.slice; obtain ⟨hc1, hf1⟩ := bcellB hb1)
          clear hsum
          go_roundw
          case rel => exact ⟨k + 1, 0, Q ++ [cc + dy], .slice ao1 nn1 cap1, by go_num, by go_num, by omega, by omega, by rw [List.length_append, HQ.out]; rfl, AllLt.append.2 ⟨lQ, AllLt.cons.2 ⟨by omega, AllLt.nil⟩⟩, by
              have := dec_add_step (x := 0) (y := dy) (d := cc + dy) (c' := 0) HV.out (by omega)
              unfold dval at *
              rw [val_snoc, HQ.out, take_step, take_step, ← HX.out, ← HY.out]; exact this,
              hown1.set_other _ (by simp) _, ((zA.alloc _).belowB hb1 (by omega)).far _ _ (by simp; omega), ((zB.alloc _).belowB hb1 (by omega)).far _ _ (by simp), ((zR.alloc _).belowB hb1 (by omega)).far _ _ (by simp), ((zO.alloc _).belowB hb1 (by omega)).set1 _,
              ((hb.trans ((below_alloc wr _).mono hb.size)).trans (hb1.mono (by omega))).setCell (by simp; omega) _⟩
          case measure => simp [intOf]; omega
        · go_wp2_with (at_builtin; refine wpList_push ei_int (by omega) rfl _ _ rfl (w.heap.size + 1 + 1 + 1 + 1) Q (cc + dy - 10000) _ rfl (Own.alloc hown _) ⟨wr.heap.size, 0, none⟩ rfl (cell_push _ _ _ _ _ (by omega)) (by rw [HQ.out]; omega) (by simp; omega) ?_; intro v1 w1 hown1 hb1; obtain ⟨ao1, nn1, cap1, rfl⟩ := hown1.slice; obtain ⟨hc1, hf1⟩ := bcellB hb1)
          clear hsum
          go_roundw
          case rel => exact ⟨k + 1, 1, Q ++ [cc + dy - 10000], .slice ao1 nn1 cap1, by go_num, by go_num, by omega, by omega, by rw [List.length_append, HQ.out]; rfl, AllLt.append.2 ⟨lQ, AllLt.cons.2 ⟨by omega, AllLt.nil⟩⟩, by
              have := dec_add_step (x := 0) (y := dy) (d := cc + dy - 10000) (c' := 1) HV.out (by omega)
              unfold dval at *
              rw [val_snoc, HQ.out, take_step, take_step, ← HX.out, ← HY.out]; exact this,
              hown1.set_other _ (by simp) _, ((zA.alloc _).belowB hb1 (by omega)).far _ _ (by simp; omega), ((zB.alloc _).belowB hb1 (by omega)).far _ _ (by simp), ((zR.alloc _).belowB hb1 (by omega)).far _ _ (by simp), ((zO.alloc _).belowB hb1 (by omega)).set1 _,
              ((hb.trans ((below_alloc wr _).mono hb.size)).trans (hb1.mono (by omega))).setCell (by simp; omega) _⟩
          case measure => simp [intOf]; omega
      · have hdy : 0 = (zl y).getD k 0 := (getD_out _ _ (by omega)).symm
        by_cases hc0 : cc = 0
        · subst hc0
          have hval : zof na (dval Q) = x + y := by
            have := HV.out
            rw [List.take_of_length_le (by omega), List.take_of_length_le (by omega), dval_zl, dval_zl] at this
            rw [show dval Q = x.natAbs + y.natAbs by omega]; exact hfin.out
          have HF := hid hval
          clear hval hdx hdy
          obtain ⟨ao1, cap1, rfl, hN1⟩ := hown.nz
          go_wp2_with fail
          have hfr : ∀ p, ao1 = some p → w.heap.size ≤ p.block := fun p hp => Nat.le_trans (by omega) (hown.fresh p hp)
          refine (trim_at _ _ _ _ _ hN1 lQ).mono ?_
          rw [HF.out]
          rintro e w2 ⟨cap2, rfl, hN2, hb2⟩
          have zR2 := zR.below hb2
          have k0 := zR2.1
          have k1 := zR2.2.1
          have f0 := zR2.2.2.1
          have f1 := zR2.2.2.2.1
          have hs2 := zR2.2.2.2.2
          go_wp2_with fail
          refine bodyPost_ret (by simp [results, Tryd.results105, go_sem, k0, k1]; try rfl) rfl ?_
          exact ⟨_, _, rfl, (hN2.setCell hs2 (by decide) _ _).setCell (hs2.setCell _ _) (by decide) _ _, ((below_trans hb hb2).setCell (by simp; omega) _).setCell (by simp; omega) _, hfr⟩
        · obtain rfl : cc = 1 := by omega
          have HX := hid hdx
          have HY := hid hdy
          clear hdx hdy
          have hsum : True := trivial
          go_wp2_with (at_builtin; refine wpList_push ei_int (by omega) rfl _ _ rfl (w.heap.size + 1 + 1 + 1 + 1) Q 1 _ rfl (Own.alloc hown _) ⟨wr.heap.size, 0, none⟩ rfl (cell_push _ _ _ _ _ (by omega)) (by rw [HQ.out]; omega) (by simp; omega) ?_; intro v1 w1 hown1 hb1; obtain ⟨ao1, nn1, cap1, rfl⟩ := hown1.slice; obtain ⟨hc1, hf1⟩ := bcellB hb1)
          clear hsum
          go_roundw
          case rel => exact ⟨k + 1, 0, Q ++ [1], .slice ao1 nn1 cap1, by go_num, by go_num, by omega, by omega, by rw [List.length_append, HQ.out]; rfl, AllLt.append.2 ⟨lQ, AllLt.cons.2 ⟨by omega, AllLt.nil⟩⟩, by
              have := dec_add_step (x := 0) (y := 0) (d := 1) (c' := 0) HV.out (by omega)
              unfold dval at *
              rw [val_snoc, HQ.out, take_step, take_step, ← HX.out, ← HY.out]; exact this,
              hown1.set_other _ (by simp) _, ((zA.alloc _).belowB hb1 (by omega)).far _ _ (by simp; omega), ((zB.alloc _).belowB hb1 (by omega)).far _ _ (by simp), ((zR.alloc _).belowB hb1 (by omega)).far _ _ (by simp), ((zO.alloc _).belowB hb1 (by omega)).set1 _,
              ((hb.trans ((below_alloc wr _).mono hb.size)).trans (hb1.mono (by omega))).setCell (by simp; omega) _⟩
          case measure => simp [intOf]; omega
end Go.Proofs.YteaakbeemhmciaaDoor
