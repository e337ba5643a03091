import Derived.Test.YtjmkhdhffmlhiaaBzBitPairs2
import Derived.Test.YtjmkhdhffmlhiaaBzBitPairs4
import Derived.Deep.RegionHeld3
import Derived.Test.YtjmkhdhffmlhiaaBzBitPairs3
import Derived.Test.YtjmkhdhffmlhiaaBzBitPairs5
import Derived.Test.YtjmkhdhffmlhiaaBzBitPairs1
import Derived.SizedLaws
import Derived.ChangeSlices
import Derived.ChangeArms
import Derived.Deep.Slices
import Derived.ProofKit
section
namespace Go.Proofs.Ytjmkhdhffmlhiaa.PAll
open Go.RowKit Go.Proofs.YtjmkhdhffmlhiaaW.PrintWords Go.Proofs.YtjmkhdhffmlhiaaW.PrintLast Go.Proofs.YtjmkhdhffmlhiaaW.PrintMore
attribute [local go_sem] max2_int min2_int max_two min_two max_three min_three max_four min_four w64_u8 w64_mod256   -- for this text's walks alone
set_option linter.unusedVariables false
set_option linter.unusedSimpArgs false
mutual
def sloperef3_Compare.j0 : Nat → Bool → Int → List Int → Int → List Int → Option (Int)
  | 0, _, _, _, _, _ => none
  | k + 1, x14, x102000, x102001, x103000, x103001 => if x14 = true then (some 0) else (if x102000 < x103000 then (some (-1)) else (if x102000 > x103000 then (some 1) else (sloperef3_Compare.l0 k (wrap64 (x102000 - 1)) x102000 x102001 x103000 x103001)))
def sloperef3_Compare.l0 : Nat → Int → Int → List Int → Int → List Int → Option (Int)
  | 0, _, _, _, _, _ => none
  | k + 1, x5, x102000, x102001, x103000, x103001 => if x5 ≥ 0 then ((sloperef3_In.f x102000 x102001 x5).bind fun t105 => ((sloperef3_In.f x103000 x103001 x5).bind fun t106 => (if (t105 != t106) = true then (if t105 = true then (some 1) else (some (-1))) else (sloperef3_Compare.l0 k (wrap64 (x5 - 1)) x102000 x102001 x103000 x103001)))) else (some 0)
end
def sloperef3_Compare.f (k : Nat) (a0_0 : Int) (l0_1 : List Int) (a1_0 : Int) (l1_1 : List Int) : Option (Int) := (sloperef3_May.f k a0_0 l0_1).bind fun t103 => (if t103 = true then ((sloperef3_May.f k a1_0 l1_1).bind fun t104 => (sloperef3_Compare.j0 k (!t104) a0_0 l0_1 a1_0 l1_1)) else (sloperef3_Compare.j0 k true a0_0 l0_1 a1_0 l1_1))
set_option maxHeartbeats 8000000 in
set_option maxRecDepth 100000 in
theorem sloperef3_Compare.calls (k : Nat) (a0_0 : Int) (A0_1 : Option Addr) (c0_1 : Nat) (l0_1 : List Int) (a1_0 : Int) (A1_1 : Option Addr) (c1_1 : Nat) (l1_1 : List Int) (r : Int) (w : World) (hr0_1 : Kd.C (Kd.int .u64) w A0_1 l0_1.length l0_1) (hc0_1 : l0_1.length ≤ c0_1) (hr1_1 : Kd.C (Kd.int .u64) w A1_1 l1_1.length l1_1) (hc1_1 : l1_1.length ≤ c1_1) (h : sloperef3_Compare.f k a0_0 l0_1 a1_0 l1_1 = some r) :
    Calls Try.prog 48 #[.agg #[.int .i64 a0_0, .slice A0_1 l0_1.length c0_1], .agg #[.int .i64 a1_0, .slice A1_1 l1_1.length c1_1]] w fun e w' => e = .returned (.int .i64 r) ∧ Below w.heap.size w w' := by
  have hu26 := Try.underlying26
  have HR0_1 := Aside0.mk hr0_1
  have HC0_1 := Aside0.mk hc0_1
  clear hr0_1 hc0_1
  have HR1_1 := Aside0.mk hr1_1
  have HC1_1 := Aside0.mk hc1_1
  clear hr1_1 hc1_1
  have HB := Aside0.mk (Below.refl w.heap.size w)
  have H : ((sloperef3_May.f k a0_0 l0_1).bind fun t103 => (if t103 = true then ((sloperef3_May.f k a1_0 l1_1).bind fun t104 => (sloperef3_Compare.j0 k (!t104) a0_0 l0_1 a1_0 l1_1)) else (sloperef3_Compare.j0 k true a0_0 l0_1 a1_0 l1_1))) = some r := h
  clear h
  have HC3 := Aside0.mk H
  clear H
  go_enter Try.func48, Try.ntmps48
  go_upto_region 1 with (first | ((with_reducible refine gate_dst (N := 2) rfl ?_); refine box_event ?hg (N := 2) ?hd (cs := #[.int .i64 a0_0, .slice A0_1 l0_1.length c0_1]) (t := 26) ?hr ?_; (case hd => rfl); (case hg => rfl); (case hr => first | (go_simp; done) | (go_simp; rfl)); intro gb101 hg w4 hbox hb; have n0_ := Aside0.mk (below_step (by repeat (first | (with_reducible first | exact HB.out | apply below_alloc | apply pw_below_drewN | apply below_drew1) | exact HB.out)) hb); have n1_ := Aside0.mk (hbox); have n2_ := Aside0.mk ((by rw [hg]; exact (below_size (by repeat (first | (with_reducible first | exact HB.out | apply below_alloc | apply pw_below_drewN | apply below_drew1) | exact HB.out))) : w.heap.size ≤ gb101)); have n3_ := Aside0.mk ((by rw [hg]; exact (below_size (by repeat (first | (with_reducible first | exact HB.out | apply below_alloc | apply pw_below_drewN | apply below_drew1) | exact HB.out))) : w.heap.size ≤ gb101)); clear HB; have HB := n0_; have BK101 := n1_; have GW101 := n2_; have GE101 := n3_; clear n0_ n1_ n2_ n3_; clear hb hbox hg) | ((with_reducible refine gate_dst (N := 3) rfl ?_); refine box_event ?hg (N := 3) ?hd (cs := #[.int .i64 a1_0, .slice A1_1 l1_1.length c1_1]) (t := 26) ?hr ?_; (case hd => rfl); (case hg => rfl); (case hr => first | (go_simp; done) | (go_simp; rfl)); intro gb102 hg w5 hbox hb; have n0_ := Aside0.mk (blk_below (g := gb101) (o := .cells #[.int .i64 a0_0, .slice A0_1 l0_1.length c0_1] 26 (0, 0)) (by (with_reducible repeat (first | refine blk_drewN ?_ _ | refine blk_drew ?_ | refine blk_alloc ?_ _)); exact BK101.out) hb); have n1_ := Aside0.mk (below_step (by repeat (first | (with_reducible first | exact HB.out | apply below_alloc | apply pw_below_drewN | apply below_drew1 | refine below_set ?_ GE101.out) | exact HB.out)) hb); have n2_ := Aside0.mk (hbox); have n3_ := Aside0.mk ((by rw [hg]; exact (below_size (by repeat (first | (with_reducible first | exact HB.out | apply below_alloc | apply pw_below_drewN | apply below_drew1 | refine below_set ?_ GE101.out) | exact HB.out))) : w.heap.size ≤ gb102)); have n4_ := Aside0.mk ((by rw [hg]; exact (below_size (by repeat (first | (with_reducible first | exact HB.out | apply below_alloc | apply pw_below_drewN | apply below_drew1 | refine below_set ?_ GE101.out) | exact HB.out))) : w.heap.size ≤ gb102)); have n5_ := Aside0.mk ((by rw [hg]; exact Nat.ne_of_lt (blk_lt (g := gb101) (o := .cells #[.int .i64 a0_0, .slice A0_1 l0_1.length c0_1] 26 (0, 0)) (by (with_reducible repeat (first | refine blk_drewN ?_ _ | refine blk_drew ?_ | refine blk_alloc ?_ _)); exact BK101.out)) : gb101 ≠ gb102)); have n6_ := Aside0.mk ((by rw [hg]; exact Nat.ne_of_gt (blk_lt (g := gb101) (o := .cells #[.int .i64 a0_0, .slice A0_1 l0_1.length c0_1] 26 (0, 0)) (by (with_reducible repeat (first | refine blk_drewN ?_ _ | refine blk_drew ?_ | refine blk_alloc ?_ _)); exact BK101.out)) : gb102 ≠ gb101)); clear BK101; clear HB; have BK101 := n0_; have HB := n1_; have BK102 := n2_; have GW102 := n3_; have GE102 := n4_; have NB101_102 := n5_; have NB102_101 := n6_; clear n0_ n1_ n2_ n3_ n4_ n5_ n6_; clear hb hbox hg))
  (try simp only [Act.put, List.setIfInBounds_toArray, List.set_cons_zero, List.set_cons_succ])
  go_cut [14] (fun v14 wc => ∃ (kq : Nat) (x14_2 : Bool), v14 = .bool x14_2 ∧ Aside0 (sloperef3_Compare.j0 kq x14_2 a0_0 l0_1 a1_0 l1_1 = some r) ∧ Aside0 (kq ≤ k) ∧ Aside0 (wc.heap[gb101]? = some (.cells #[.int .i64 a0_0, (.slice A0_1 l0_1.length c0_1)] 26 (0, 0))) ∧ Aside0 (wc.heap[gb102]? = some (.cells #[.int .i64 a1_0, (.slice A1_1 l1_1.length c1_1)] 26 (0, 0))) ∧ Aside0 (Below w.heap.size w wc))
  case first =>
    have H := HC3.out
    clear HC3
    replace H := Option.bind_eq_some_iff.mp H
    obtain ⟨t103, A60, H⟩ := H
    replace H : (if t103 = true then ((sloperef3_May.f k a1_0 l1_1).bind fun t104 => (sloperef3_Compare.j0 k (!t104) a0_0 l0_1 a1_0 l1_1)) else (sloperef3_Compare.j0 k true a0_0 l0_1 a1_0 l1_1)) = some r := H
    have A6 := Aside0.mk A60
    clear A60
    by_cases c7 : t103 = true
    · subst c7
      have H1 : ((sloperef3_May.f k a1_0 l1_1).bind fun t104 => (sloperef3_Compare.j0 k (!t104) a0_0 l0_1 a1_0 l1_1)) = some r := by rw [if_pos rfl] at H; exact H
      clear H
      have H := H1
      clear H1
      replace H := Option.bind_eq_some_iff.mp H
      obtain ⟨t104, A80, H⟩ := H
      replace H : (sloperef3_Compare.j0 k (!t104) a0_0 l0_1 a1_0 l1_1) = some r := H
      have A8 := Aside0.mk A80
      clear A80
      have H' := Aside0.mk H
      clear H
      have hnb9 := NB101_102.out
      have hnc9 := NB102_101.out
      have hcz10_0 : w5.cell? ⟨gb101, 0, none⟩ = some (.int .i64 a0_0) := (blk_cell BK101.out 0).trans rfl
      have hcz10_1 : w5.cell? ⟨gb101, 1, none⟩ = some (.slice A0_1 l0_1.length c0_1) := (blk_cell BK101.out 1).trans rfl
      have hfz10_0 := blk_frozen BK101.out 0
      have hfz10_1 := blk_frozen BK101.out 1
      go_wp2_with (first | ((with_reducible refine gate_callee (f := 24) rfl ?_); refine goesL_ (some 8) rfl rfl Try.func24 (by kernel_rfl) rfl #[.agg #[.int .i64 a0_0, .slice A0_1 l0_1.length c0_1]] rfl (by (try simp only [List.map_toArray, List.map_cons, List.map_nil]); first | done | rfl | (simp only [List.length_drop, List.length_take]; rfl)) ?_; (with_reducible refine (sloperef3_May.calls k a0_0 _ _ l0_1 true _ ?side1 ?side2 A6.out).mono ?_); (case side1 => repeat (first | exact (Kd.C_below HR0_1.out HB.out) | (with_reducible refine Kd.C_alloc ?_ _) | (with_reducible refine Kd.C_drewN ?_ _) | (with_reducible refine Kd.C_drew ?_))); (case side2 => exact HC0_1.out); rintro e w11 ⟨rfl, hb⟩; refine ⟨_, rfl, ?_⟩; have n0_ := Aside0.mk (blk_below (g := gb101) (o := .cells #[.int .i64 a0_0, .slice A0_1 l0_1.length c0_1] 26 (0, 0)) (by (with_reducible repeat (first | refine blk_drewN ?_ _ | refine blk_drew ?_ | refine blk_alloc ?_ _)); exact BK101.out) hb); have n1_ := Aside0.mk (blk_below (g := gb102) (o := .cells #[.int .i64 a1_0, .slice A1_1 l1_1.length c1_1] 26 (0, 0)) (by (with_reducible repeat (first | refine blk_drewN ?_ _ | refine blk_drew ?_ | refine blk_alloc ?_ _)); exact BK102.out) hb); have n2_ := Aside0.mk (below_step (by repeat (first | (with_reducible first | exact HB.out | apply below_alloc | apply pw_below_drewN | apply below_drew1 | refine below_set ?_ GE101.out | refine below_set ?_ GE102.out) | exact HB.out)) hb); clear BK101; clear BK102; clear HB; have BK101 := n0_; have BK102 := n1_; have HB := n2_; clear n0_ n1_ n2_; (try clear hb); (try clear hb2); (try clear hk); (try clear hi); have hcz12_0 : w11.cell? ⟨gb102, 0, none⟩ = some (.int .i64 a1_0) := (blk_cell BK102.out 0).trans rfl; have hcz12_1 : w11.cell? ⟨gb102, 1, none⟩ = some (.slice A1_1 l1_1.length c1_1) := (blk_cell BK102.out 1).trans rfl; have hfz12_0 := blk_frozen BK102.out 0; have hfz12_1 := blk_frozen BK102.out 1) | (go_at_call 24; (with_reducible refine (sloperef3_May.calls k a1_0 _ _ l1_1 t104 _ ?side1 ?side2 A8.out).mono ?_); (case side1 => repeat (first | exact (Kd.C_below HR1_1.out HB.out) | (with_reducible refine Kd.C_alloc ?_ _) | (with_reducible refine Kd.C_drewN ?_ _) | (with_reducible refine Kd.C_drew ?_))); (case side2 => exact HC1_1.out); rintro e w13 ⟨rfl, hb⟩; have n0_ := Aside0.mk (blk_below (g := gb101) (o := .cells #[.int .i64 a0_0, .slice A0_1 l0_1.length c0_1] 26 (0, 0)) (by (with_reducible repeat (first | refine blk_drewN ?_ _ | refine blk_drew ?_ | refine blk_alloc ?_ _)); exact BK101.out) hb); have n1_ := Aside0.mk (blk_below (g := gb102) (o := .cells #[.int .i64 a1_0, .slice A1_1 l1_1.length c1_1] 26 (0, 0)) (by (with_reducible repeat (first | refine blk_drewN ?_ _ | refine blk_drew ?_ | refine blk_alloc ?_ _)); exact BK102.out) hb); have n2_ := Aside0.mk (below_step (by repeat (first | (with_reducible first | exact HB.out | apply below_alloc | apply pw_below_drewN | apply below_drew1 | refine below_set ?_ GE101.out | refine below_set ?_ GE102.out) | exact HB.out)) hb); clear BK101; clear BK102; clear HB; have BK101 := n0_; have BK102 := n1_; have HB := n2_; clear n0_ n1_ n2_; (try clear hb); (try clear hb2); (try clear hk); (try clear hi)))
      go_meet
      case rel => exact ⟨_, (!t104), (by first | rfl | (simp; done) | (simp [*]; done)), H', ⟨by first | omega | exact Nat.le_refl _⟩, ⟨by (with_reducible repeat (first | refine blk_drewN ?_ _ | refine blk_drew ?_ | refine blk_alloc ?_ _)); exact BK101.out⟩, ⟨by (with_reducible repeat (first | refine blk_drewN ?_ _ | refine blk_drew ?_ | refine blk_alloc ?_ _)); exact BK102.out⟩, ⟨by repeat (first | (with_reducible first | exact HB.out | apply below_alloc | apply pw_below_drewN | apply below_drew1 | refine below_set ?_ GE101.out | refine below_set ?_ GE102.out) | exact HB.out)⟩⟩
    · replace c7 := Bool.eq_false_iff.mpr c7
      subst c7
      have H1 : (sloperef3_Compare.j0 k true a0_0 l0_1 a1_0 l1_1) = some r := by rw [if_neg (show ¬ (false = true) by decide)] at H; exact H
      clear H
      have H := H1
      clear H1
      have H' := Aside0.mk H
      clear H
      have hnb14 := NB101_102.out
      have hnc14 := NB102_101.out
      have hcz15_0 : w5.cell? ⟨gb101, 0, none⟩ = some (.int .i64 a0_0) := (blk_cell BK101.out 0).trans rfl
      have hcz15_1 : w5.cell? ⟨gb101, 1, none⟩ = some (.slice A0_1 l0_1.length c0_1) := (blk_cell BK101.out 1).trans rfl
      have hfz15_0 := blk_frozen BK101.out 0
      have hfz15_1 := blk_frozen BK101.out 1
      go_wp2_with (first | ((with_reducible refine gate_callee (f := 24) rfl ?_); refine goesL_ (some 8) rfl rfl Try.func24 (by kernel_rfl) rfl #[.agg #[.int .i64 a0_0, .slice A0_1 l0_1.length c0_1]] rfl (by (try simp only [List.map_toArray, List.map_cons, List.map_nil]); first | done | rfl | (simp only [List.length_drop, List.length_take]; rfl)) ?_; (with_reducible refine (sloperef3_May.calls k a0_0 _ _ l0_1 false _ ?side1 ?side2 A6.out).mono ?_); (case side1 => repeat (first | exact (Kd.C_below HR0_1.out HB.out) | (with_reducible refine Kd.C_alloc ?_ _) | (with_reducible refine Kd.C_drewN ?_ _) | (with_reducible refine Kd.C_drew ?_))); (case side2 => exact HC0_1.out); rintro e w16 ⟨rfl, hb⟩; refine ⟨_, rfl, ?_⟩; have n0_ := Aside0.mk (blk_below (g := gb101) (o := .cells #[.int .i64 a0_0, .slice A0_1 l0_1.length c0_1] 26 (0, 0)) (by (with_reducible repeat (first | refine blk_drewN ?_ _ | refine blk_drew ?_ | refine blk_alloc ?_ _)); exact BK101.out) hb); have n1_ := Aside0.mk (blk_below (g := gb102) (o := .cells #[.int .i64 a1_0, .slice A1_1 l1_1.length c1_1] 26 (0, 0)) (by (with_reducible repeat (first | refine blk_drewN ?_ _ | refine blk_drew ?_ | refine blk_alloc ?_ _)); exact BK102.out) hb); have n2_ := Aside0.mk (below_step (by repeat (first | (with_reducible first | exact HB.out | apply below_alloc | apply pw_below_drewN | apply below_drew1 | refine below_set ?_ GE101.out | refine below_set ?_ GE102.out) | exact HB.out)) hb); clear BK101; clear BK102; clear HB; have BK101 := n0_; have BK102 := n1_; have HB := n2_; clear n0_ n1_ n2_; (try clear hb); (try clear hb2); (try clear hk); (try clear hi)))
      go_meet
      case rel => exact ⟨_, (true), (by first | rfl | (simp; done) | (simp [*]; done)), H', ⟨by first | omega | exact Nat.le_refl _⟩, ⟨by (with_reducible repeat (first | refine blk_drewN ?_ _ | refine blk_drew ?_ | refine blk_alloc ?_ _)); exact BK101.out⟩, ⟨by (with_reducible repeat (first | refine blk_drewN ?_ _ | refine blk_drew ?_ | refine blk_alloc ?_ _)); exact BK102.out⟩, ⟨by repeat (first | (with_reducible first | exact HB.out | apply below_alloc | apply pw_below_drewN | apply below_drew1 | refine below_set ?_ GE101.out | refine below_set ?_ GE102.out) | exact HB.out)⟩⟩
  case rest =>
    clear HC3
    try clear c1
    try clear c2
    try clear p2
    try clear c4
    try clear c7
    try clear c9
    try clear c14
    try clear hcz10_0
    try clear hcz10_1
    try clear hcz12_0
    try clear hcz12_1
    try clear hcz15_0
    try clear hcz15_1
    try clear hfz10_0
    try clear hfz10_1
    try clear hfz12_0
    try clear hfz12_1
    try clear hfz15_0
    try clear hfz15_1
    obtain ⟨kq, x14_2, rfl, HA, HJ2, BK101, BK102, HB⟩ := hcut
    cases kq with
    | zero => exact absurd HA.out (by simp [sloperef3_Compare.j0])
    | succ kj2 =>
      have H := HA.out
      clear HA
      simp only [sloperef3_Compare.j0] at H
      by_cases c17 : x14_2 = true
      · subst c17
        have H1 : (some 0) = some r := by rw [if_pos rfl] at H; exact H
        clear H
        have H := H1
        clear H1
        obtain rfl := Option.some.inj H
        go_wp2
        go_ret
        exact ⟨by first | rfl | (simp [errW_none, errW_some] <;> rfl) | (simp [*, errW_none, errW_some] <;> rfl), by repeat (first | (with_reducible first | exact HB.out | apply below_alloc | apply pw_below_drewN | apply below_drew1 | refine below_set ?_ GE101.out | refine below_set ?_ GE102.out) | exact HB.out)⟩
      · replace c17 := Bool.eq_false_iff.mpr c17
        subst c17
        have H1 : (if a0_0 < a1_0 then (some (-1)) else (if a0_0 > a1_0 then (some 1) else (sloperef3_Compare.l0 kj2 (wrap64 (a0_0 - 1)) a0_0 l0_1 a1_0 l1_1))) = some r := by rw [if_neg (show ¬ (false = true) by decide)] at H; exact H
        clear H
        have H := H1
        clear H1
        by_cases c18 : a0_0 < a1_0
        · rw [if_pos c18] at H
          have c18b0 : decide (a0_0 < a1_0) = true := decide_eq_true c18
          clear c18
          obtain rfl := Option.some.inj H
          have hnb19 := NB101_102.out
          have hnc19 := NB102_101.out
          have hcz20_0 : wc.cell? ⟨gb101, 0, none⟩ = some (.int .i64 a0_0) := (blk_cell BK101.out 0).trans rfl
          have hcz20_1 : wc.cell? ⟨gb101, 1, none⟩ = some (.slice A0_1 l0_1.length c0_1) := (blk_cell BK101.out 1).trans rfl
          have hfz20_0 := blk_frozen BK101.out 0
          have hfz20_1 := blk_frozen BK101.out 1
          have hcz21_0 : wc.cell? ⟨gb102, 0, none⟩ = some (.int .i64 a1_0) := (blk_cell BK102.out 0).trans rfl
          have hcz21_1 : wc.cell? ⟨gb102, 1, none⟩ = some (.slice A1_1 l1_1.length c1_1) := (blk_cell BK102.out 1).trans rfl
          have hfz21_0 := blk_frozen BK102.out 0
          have hfz21_1 := blk_frozen BK102.out 1
          go_wp2
          go_ret
          exact ⟨by first | rfl | (simp [errW_none, errW_some] <;> rfl) | (simp [*, errW_none, errW_some] <;> rfl), by repeat (first | (with_reducible first | exact HB.out | apply below_alloc | apply pw_below_drewN | apply below_drew1 | refine below_set ?_ GE101.out | refine below_set ?_ GE102.out) | exact HB.out)⟩
        · rw [if_neg c18] at H
          have c18b0 : decide (a0_0 < a1_0) = false := decide_eq_false c18
          clear c18
          by_cases c22 : a0_0 > a1_0
          · rw [if_pos c22] at H
            have c22b0 : decide (a1_0 < a0_0) = true := decide_eq_true c22
            clear c22
            obtain rfl := Option.some.inj H
            have hnb23 := NB101_102.out
            have hnc23 := NB102_101.out
            have hcz24_0 : wc.cell? ⟨gb101, 0, none⟩ = some (.int .i64 a0_0) := (blk_cell BK101.out 0).trans rfl
            have hcz24_1 : wc.cell? ⟨gb101, 1, none⟩ = some (.slice A0_1 l0_1.length c0_1) := (blk_cell BK101.out 1).trans rfl
            have hfz24_0 := blk_frozen BK101.out 0
            have hfz24_1 := blk_frozen BK101.out 1
            have hcz25_0 : wc.cell? ⟨gb102, 0, none⟩ = some (.int .i64 a1_0) := (blk_cell BK102.out 0).trans rfl
            have hcz25_1 : wc.cell? ⟨gb102, 1, none⟩ = some (.slice A1_1 l1_1.length c1_1) := (blk_cell BK102.out 1).trans rfl
            have hfz25_0 := blk_frozen BK102.out 0
            have hfz25_1 := blk_frozen BK102.out 1
            go_wp2
            go_ret
            exact ⟨by first | rfl | (simp [errW_none, errW_some] <;> rfl) | (simp [*, errW_none, errW_some] <;> rfl), by repeat (first | (with_reducible first | exact HB.out | apply below_alloc | apply pw_below_drewN | apply below_drew1 | refine below_set ?_ GE101.out | refine below_set ?_ GE102.out) | exact HB.out)⟩
          · rw [if_neg c22] at H
            have c22b0 : decide (a1_0 < a0_0) = false := decide_eq_false c22
            clear c22
            have H' := Aside0.mk H
            clear H
            have hnb26 := NB101_102.out
            have hnc26 := NB102_101.out
            have hcz27_0 : wc.cell? ⟨gb101, 0, none⟩ = some (.int .i64 a0_0) := (blk_cell BK101.out 0).trans rfl
            have hcz27_1 : wc.cell? ⟨gb101, 1, none⟩ = some (.slice A0_1 l0_1.length c0_1) := (blk_cell BK101.out 1).trans rfl
            have hfz27_0 := blk_frozen BK101.out 0
            have hfz27_1 := blk_frozen BK101.out 1
            have hcz28_0 : wc.cell? ⟨gb102, 0, none⟩ = some (.int .i64 a1_0) := (blk_cell BK102.out 0).trans rfl
            have hcz28_1 : wc.cell? ⟨gb102, 1, none⟩ = some (.slice A1_1 l1_1.length c1_1) := (blk_cell BK102.out 1).trans rfl
            have hfz28_0 := blk_frozen BK102.out 0
            have hfz28_1 := blk_frozen BK102.out 1
            go_wp2
            go_loopg [5] kj2 (fun kq v5 w' => ∃ (x5_2 : Int), v5 = .int .i64 x5_2 ∧ Aside0 (sloperef3_Compare.l0 kq x5_2 a0_0 l0_1 a1_0 l1_1 = some r) ∧ Aside0 (kq ≤ kj2) ∧ Aside0 (w'.heap[gb101]? = some (.cells #[.int .i64 a0_0, (.slice A0_1 l0_1.length c0_1)] 26 (0, 0))) ∧ Aside0 (w'.heap[gb102]? = some (.cells #[.int .i64 a1_0, (.slice A1_1 l1_1.length c1_1)] 26 (0, 0))) ∧ Aside0 (Below w.heap.size w w'))
            case atStart => exact ⟨(wrap64 (a0_0 - 1)), (by first | rfl | (simp; done) | (simp [*]; done)), H', ⟨Nat.le_refl _⟩, ⟨by (with_reducible repeat (first | refine blk_drewN ?_ _ | refine blk_drew ?_ | refine blk_alloc ?_ _)); exact BK101.out⟩, ⟨by (with_reducible repeat (first | refine blk_drewN ?_ _ | refine blk_drew ?_ | refine blk_alloc ?_ _)); exact BK102.out⟩, ⟨by repeat (first | (with_reducible first | exact HB.out | apply below_alloc | apply pw_below_drewN | apply below_drew1 | refine below_set ?_ GE101.out | refine below_set ?_ GE102.out) | exact HB.out)⟩⟩
            case round =>
              clear H'
              try clear c1
              try clear c2
              try clear p2
              try clear c4
              try clear p6
              try clear c7
              try clear c9
              try clear c14
              try clear c17
              try clear c18
              try clear c18b0
              try clear c19
              try clear c22
              try clear c22b0
              try clear c23
              try clear c24
              try clear c26
              try clear hcz10_0
              try clear hcz10_1
              try clear hcz12_0
              try clear hcz12_1
              try clear hcz15_0
              try clear hcz15_1
              try clear hcz20_0
              try clear hcz20_1
              try clear hcz21_0
              try clear hcz21_1
              try clear hcz24_0
              try clear hcz24_1
              try clear hcz25_0
              try clear hcz25_1
              try clear hcz27_0
              try clear hcz27_1
              try clear hcz28_0
              try clear hcz28_1
              try clear hfz10_0
              try clear hfz10_1
              try clear hfz12_0
              try clear hfz12_1
              try clear hfz15_0
              try clear hfz15_1
              try clear hfz20_0
              try clear hfz20_1
              try clear hfz21_0
              try clear hfz21_1
              try clear hfz24_0
              try clear hfz24_1
              try clear hfz25_0
              try clear hfz25_1
              try clear hfz27_0
              try clear hfz27_1
              try clear hfz28_0
              try clear hfz28_1
              try clear p2
              obtain ⟨x5_2, rfl, HA, HK2, BK101, BK102, HB⟩ := hrel
              cases gk with
              | zero => exact absurd HA.out (by simp [sloperef3_Compare.l0])
              | succ k2 =>
                have H := HA.out
                clear HA
                simp only [sloperef3_Compare.l0] at H
                by_cases c29 : x5_2 ≥ 0
                · rw [if_pos c29] at H
                  have c29b0 : decide (0 ≤ x5_2) = true := decide_eq_true c29
                  clear c29
                  replace H := Option.bind_eq_some_iff.mp H
                  obtain ⟨t105, A300, H⟩ := H
                  replace H : ((sloperef3_In.f a1_0 l1_1 x5_2).bind fun t106 => (if (t105 != t106) = true then (if t105 = true then (some 1) else (some (-1))) else (sloperef3_Compare.l0 k2 (wrap64 (x5_2 - 1)) a0_0 l0_1 a1_0 l1_1))) = some r := H
                  have A30 := Aside0.mk A300
                  clear A300
                  replace H := Option.bind_eq_some_iff.mp H
                  obtain ⟨t106, A310, H⟩ := H
                  replace H : (if (t105 != t106) = true then (if t105 = true then (some 1) else (some (-1))) else (sloperef3_Compare.l0 k2 (wrap64 (x5_2 - 1)) a0_0 l0_1 a1_0 l1_1)) = some r := H
                  have A31 := Aside0.mk A310
                  clear A310
                  by_cases c32 : (t105 != t106) = true
                  · rw [if_pos c32] at H
                    have c32b0 : (t105 != t106) = true := c32
                    (try (have c32b1 : decide (t105 = t106) = false := by simpa using c32))
                    (try (have c32b2 : (t105 == t106) = false := by simpa using c32))
                    (try (have c32b3 : ¬ (t105 = t106) := by simpa using c32))
                    clear c32
                    by_cases c33 : t105 = true
                    · subst c33
                      have H1 : (some 1) = some r := by rw [if_pos rfl] at H; exact H
                      clear H
                      have H := H1
                      clear H1
                      obtain rfl := Option.some.inj H
                      have hnb34 := NB101_102.out
                      have hnc34 := NB102_101.out
                      have hcz35_0 : wr.cell? ⟨gb101, 0, none⟩ = some (.int .i64 a0_0) := (blk_cell BK101.out 0).trans rfl
                      have hcz35_1 : wr.cell? ⟨gb101, 1, none⟩ = some (.slice A0_1 l0_1.length c0_1) := (blk_cell BK101.out 1).trans rfl
                      have hfz35_0 := blk_frozen BK101.out 0
                      have hfz35_1 := blk_frozen BK101.out 1
                      go_wp2_with (first | ((with_reducible refine gate_callee (f := 64) rfl ?_); refine goesL_ (some 34) rfl rfl Try.func64 (by kernel_rfl) rfl #[.agg #[.int .i64 a0_0, .slice A0_1 l0_1.length c0_1], .int .i64 x5_2] rfl (by (try simp only [List.map_toArray, List.map_cons, List.map_nil]); first | done | rfl | (simp only [List.length_drop, List.length_take]; rfl)) ?_; (with_reducible refine (sloperef3_In.calls a0_0 _ _ l0_1 x5_2 true _ ?side1 ?side2 A30.out).mono ?_); (case side1 => repeat (first | exact (Kd.C_below HR0_1.out HB.out) | (with_reducible refine Kd.C_alloc ?_ _) | (with_reducible refine Kd.C_drewN ?_ _) | (with_reducible refine Kd.C_drew ?_))); (case side2 => exact HC0_1.out); rintro e w36 ⟨rfl, hb⟩; refine ⟨_, rfl, ?_⟩; have n0_ := Aside0.mk (blk_below (g := gb101) (o := .cells #[.int .i64 a0_0, .slice A0_1 l0_1.length c0_1] 26 (0, 0)) (by (with_reducible repeat (first | refine blk_drewN ?_ _ | refine blk_drew ?_ | refine blk_alloc ?_ _)); exact BK101.out) hb); have n1_ := Aside0.mk (blk_below (g := gb102) (o := .cells #[.int .i64 a1_0, .slice A1_1 l1_1.length c1_1] 26 (0, 0)) (by (with_reducible repeat (first | refine blk_drewN ?_ _ | refine blk_drew ?_ | refine blk_alloc ?_ _)); exact BK102.out) hb); have n2_ := Aside0.mk (below_step (by repeat (first | (with_reducible first | exact HB.out | apply below_alloc | apply pw_below_drewN | apply below_drew1 | refine below_set ?_ GE101.out | refine below_set ?_ GE102.out) | exact HB.out)) hb); clear BK101; clear BK102; clear HB; have BK101 := n0_; have BK102 := n1_; have HB := n2_; clear n0_ n1_ n2_; (try clear hb); (try clear hb2); (try clear hk); (try clear hi); have hcz37_0 : w36.cell? ⟨gb102, 0, none⟩ = some (.int .i64 a1_0) := (blk_cell BK102.out 0).trans rfl; have hcz37_1 : w36.cell? ⟨gb102, 1, none⟩ = some (.slice A1_1 l1_1.length c1_1) := (blk_cell BK102.out 1).trans rfl; have hfz37_0 := blk_frozen BK102.out 0; have hfz37_1 := blk_frozen BK102.out 1) | ((with_reducible refine gate_callee (f := 64) rfl ?_); refine goesL_ (some 38) rfl rfl Try.func64 (by kernel_rfl) rfl #[.agg #[.int .i64 a1_0, .slice A1_1 l1_1.length c1_1], .int .i64 x5_2] rfl (by (try simp only [List.map_toArray, List.map_cons, List.map_nil]); first | done | rfl | (simp only [List.length_drop, List.length_take]; rfl)) ?_; (with_reducible refine (sloperef3_In.calls a1_0 _ _ l1_1 x5_2 t106 _ ?side1 ?side2 A31.out).mono ?_); (case side1 => repeat (first | exact (Kd.C_below HR1_1.out HB.out) | (with_reducible refine Kd.C_alloc ?_ _) | (with_reducible refine Kd.C_drewN ?_ _) | (with_reducible refine Kd.C_drew ?_))); (case side2 => exact HC1_1.out); rintro e w38 ⟨rfl, hb⟩; refine ⟨_, rfl, ?_⟩; have n0_ := Aside0.mk (blk_below (g := gb101) (o := .cells #[.int .i64 a0_0, .slice A0_1 l0_1.length c0_1] 26 (0, 0)) (by (with_reducible repeat (first | refine blk_drewN ?_ _ | refine blk_drew ?_ | refine blk_alloc ?_ _)); exact BK101.out) hb); have n1_ := Aside0.mk (blk_below (g := gb102) (o := .cells #[.int .i64 a1_0, .slice A1_1 l1_1.length c1_1] 26 (0, 0)) (by (with_reducible repeat (first | refine blk_drewN ?_ _ | refine blk_drew ?_ | refine blk_alloc ?_ _)); exact BK102.out) hb); have n2_ := Aside0.mk (below_step (by repeat (first | (with_reducible first | exact HB.out | apply below_alloc | apply pw_below_drewN | apply below_drew1 | refine below_set ?_ GE101.out | refine below_set ?_ GE102.out) | exact HB.out)) hb); clear BK101; clear BK102; clear HB; have BK101 := n0_; have BK102 := n1_; have HB := n2_; clear n0_ n1_ n2_; (try clear hb); (try clear hb2); (try clear hk); (try clear hi)))
                      go_ret
                      exact ⟨by first | rfl | (simp [errW_none, errW_some] <;> rfl) | (simp [*, errW_none, errW_some] <;> rfl), by repeat (first | (with_reducible first | exact HB.out | apply below_alloc | apply pw_below_drewN | apply below_drew1 | refine below_set ?_ GE101.out | refine below_set ?_ GE102.out) | exact HB.out)⟩
                    · replace c33 := Bool.eq_false_iff.mpr c33
                      subst c33
                      have H1 : (some (-1)) = some r := by rw [if_neg (show ¬ (false = true) by decide)] at H; exact H
                      clear H
                      have H := H1
                      clear H1
                      obtain rfl := Option.some.inj H
                      have hnb39 := NB101_102.out
                      have hnc39 := NB102_101.out
                      have hcz40_0 : wr.cell? ⟨gb101, 0, none⟩ = some (.int .i64 a0_0) := (blk_cell BK101.out 0).trans rfl
                      have hcz40_1 : wr.cell? ⟨gb101, 1, none⟩ = some (.slice A0_1 l0_1.length c0_1) := (blk_cell BK101.out 1).trans rfl
                      have hfz40_0 := blk_frozen BK101.out 0
                      have hfz40_1 := blk_frozen BK101.out 1
                      go_wp2_with (first | ((with_reducible refine gate_callee (f := 64) rfl ?_); refine goesL_ (some 34) rfl rfl Try.func64 (by kernel_rfl) rfl #[.agg #[.int .i64 a0_0, .slice A0_1 l0_1.length c0_1], .int .i64 x5_2] rfl (by (try simp only [List.map_toArray, List.map_cons, List.map_nil]); first | done | rfl | (simp only [List.length_drop, List.length_take]; rfl)) ?_; (with_reducible refine (sloperef3_In.calls a0_0 _ _ l0_1 x5_2 false _ ?side1 ?side2 A30.out).mono ?_); (case side1 => repeat (first | exact (Kd.C_below HR0_1.out HB.out) | (with_reducible refine Kd.C_alloc ?_ _) | (with_reducible refine Kd.C_drewN ?_ _) | (with_reducible refine Kd.C_drew ?_))); (case side2 => exact HC0_1.out); rintro e w41 ⟨rfl, hb⟩; refine ⟨_, rfl, ?_⟩; have n0_ := Aside0.mk (blk_below (g := gb101) (o := .cells #[.int .i64 a0_0, .slice A0_1 l0_1.length c0_1] 26 (0, 0)) (by (with_reducible repeat (first | refine blk_drewN ?_ _ | refine blk_drew ?_ | refine blk_alloc ?_ _)); exact BK101.out) hb); have n1_ := Aside0.mk (blk_below (g := gb102) (o := .cells #[.int .i64 a1_0, .slice A1_1 l1_1.length c1_1] 26 (0, 0)) (by (with_reducible repeat (first | refine blk_drewN ?_ _ | refine blk_drew ?_ | refine blk_alloc ?_ _)); exact BK102.out) hb); have n2_ := Aside0.mk (below_step (by repeat (first | (with_reducible first | exact HB.out | apply below_alloc | apply pw_below_drewN | apply below_drew1 | refine below_set ?_ GE101.out | refine below_set ?_ GE102.out) | exact HB.out)) hb); clear BK101; clear BK102; clear HB; have BK101 := n0_; have BK102 := n1_; have HB := n2_; clear n0_ n1_ n2_; (try clear hb); (try clear hb2); (try clear hk); (try clear hi); have hcz42_0 : w41.cell? ⟨gb102, 0, none⟩ = some (.int .i64 a1_0) := (blk_cell BK102.out 0).trans rfl; have hcz42_1 : w41.cell? ⟨gb102, 1, none⟩ = some (.slice A1_1 l1_1.length c1_1) := (blk_cell BK102.out 1).trans rfl; have hfz42_0 := blk_frozen BK102.out 0; have hfz42_1 := blk_frozen BK102.out 1) | ((with_reducible refine gate_callee (f := 64) rfl ?_); refine goesL_ (some 38) rfl rfl Try.func64 (by kernel_rfl) rfl #[.agg #[.int .i64 a1_0, .slice A1_1 l1_1.length c1_1], .int .i64 x5_2] rfl (by (try simp only [List.map_toArray, List.map_cons, List.map_nil]); first | done | rfl | (simp only [List.length_drop, List.length_take]; rfl)) ?_; (with_reducible refine (sloperef3_In.calls a1_0 _ _ l1_1 x5_2 t106 _ ?side1 ?side2 A31.out).mono ?_); (case side1 => repeat (first | exact (Kd.C_below HR1_1.out HB.out) | (with_reducible refine Kd.C_alloc ?_ _) | (with_reducible refine Kd.C_drewN ?_ _) | (with_reducible refine Kd.C_drew ?_))); (case side2 => exact HC1_1.out); rintro e w43 ⟨rfl, hb⟩; refine ⟨_, rfl, ?_⟩; have n0_ := Aside0.mk (blk_below (g := gb101) (o := .cells #[.int .i64 a0_0, .slice A0_1 l0_1.length c0_1] 26 (0, 0)) (by (with_reducible repeat (first | refine blk_drewN ?_ _ | refine blk_drew ?_ | refine blk_alloc ?_ _)); exact BK101.out) hb); have n1_ := Aside0.mk (blk_below (g := gb102) (o := .cells #[.int .i64 a1_0, .slice A1_1 l1_1.length c1_1] 26 (0, 0)) (by (with_reducible repeat (first | refine blk_drewN ?_ _ | refine blk_drew ?_ | refine blk_alloc ?_ _)); exact BK102.out) hb); have n2_ := Aside0.mk (below_step (by repeat (first | (with_reducible first | exact HB.out | apply below_alloc | apply pw_below_drewN | apply below_drew1 | refine below_set ?_ GE101.out | refine below_set ?_ GE102.out) | exact HB.out)) hb); clear BK101; clear BK102; clear HB; have BK101 := n0_; have BK102 := n1_; have HB := n2_; clear n0_ n1_ n2_; (try clear hb); (try clear hb2); (try clear hk); (try clear hi)))
                      go_ret
                      exact ⟨by first | rfl | (simp [errW_none, errW_some] <;> rfl) | (simp [*, errW_none, errW_some] <;> rfl), by repeat (first | (with_reducible first | exact HB.out | apply below_alloc | apply pw_below_drewN | apply below_drew1 | refine below_set ?_ GE101.out | refine below_set ?_ GE102.out) | exact HB.out)⟩
                  · rw [if_neg c32] at H
                    have c32b0 : (t105 != t106) = false := by simpa using c32
                    (try (have c32b1 : decide (t105 = t106) = true := by simpa using c32))
                    (try (have c32b2 : (t105 == t106) = true := by simpa using c32))
                    clear c32
                    have H' := Aside0.mk H
                    clear H
                    have hnb44 := NB101_102.out
                    have hnc44 := NB102_101.out
                    have hcz45_0 : wr.cell? ⟨gb101, 0, none⟩ = some (.int .i64 a0_0) := (blk_cell BK101.out 0).trans rfl
                    have hcz45_1 : wr.cell? ⟨gb101, 1, none⟩ = some (.slice A0_1 l0_1.length c0_1) := (blk_cell BK101.out 1).trans rfl
                    have hfz45_0 := blk_frozen BK101.out 0
                    have hfz45_1 := blk_frozen BK101.out 1
                    go_wp2_with (first | ((with_reducible refine gate_callee (f := 64) rfl ?_); refine goesL_ (some 34) rfl rfl Try.func64 (by kernel_rfl) rfl #[.agg #[.int .i64 a0_0, .slice A0_1 l0_1.length c0_1], .int .i64 x5_2] rfl (by (try simp only [List.map_toArray, List.map_cons, List.map_nil]); first | done | rfl | (simp only [List.length_drop, List.length_take]; rfl)) ?_; (with_reducible refine (sloperef3_In.calls a0_0 _ _ l0_1 x5_2 t105 _ ?side1 ?side2 A30.out).mono ?_); (case side1 => repeat (first | exact (Kd.C_below HR0_1.out HB.out) | (with_reducible refine Kd.C_alloc ?_ _) | (with_reducible refine Kd.C_drewN ?_ _) | (with_reducible refine Kd.C_drew ?_))); (case side2 => exact HC0_1.out); rintro e w46 ⟨rfl, hb⟩; refine ⟨_, rfl, ?_⟩; have n0_ := Aside0.mk (blk_below (g := gb101) (o := .cells #[.int .i64 a0_0, .slice A0_1 l0_1.length c0_1] 26 (0, 0)) (by (with_reducible repeat (first | refine blk_drewN ?_ _ | refine blk_drew ?_ | refine blk_alloc ?_ _)); exact BK101.out) hb); have n1_ := Aside0.mk (blk_below (g := gb102) (o := .cells #[.int .i64 a1_0, .slice A1_1 l1_1.length c1_1] 26 (0, 0)) (by (with_reducible repeat (first | refine blk_drewN ?_ _ | refine blk_drew ?_ | refine blk_alloc ?_ _)); exact BK102.out) hb); have n2_ := Aside0.mk (below_step (by repeat (first | (with_reducible first | exact HB.out | apply below_alloc | apply pw_below_drewN | apply below_drew1 | refine below_set ?_ GE101.out | refine below_set ?_ GE102.out) | exact HB.out)) hb); clear BK101; clear BK102; clear HB; have BK101 := n0_; have BK102 := n1_; have HB := n2_; clear n0_ n1_ n2_; (try clear hb); (try clear hb2); (try clear hk); (try clear hi); have hcz47_0 : w46.cell? ⟨gb102, 0, none⟩ = some (.int .i64 a1_0) := (blk_cell BK102.out 0).trans rfl; have hcz47_1 : w46.cell? ⟨gb102, 1, none⟩ = some (.slice A1_1 l1_1.length c1_1) := (blk_cell BK102.out 1).trans rfl; have hfz47_0 := blk_frozen BK102.out 0; have hfz47_1 := blk_frozen BK102.out 1) | ((with_reducible refine gate_callee (f := 64) rfl ?_); refine goesL_ (some 38) rfl rfl Try.func64 (by kernel_rfl) rfl #[.agg #[.int .i64 a1_0, .slice A1_1 l1_1.length c1_1], .int .i64 x5_2] rfl (by (try simp only [List.map_toArray, List.map_cons, List.map_nil]); first | done | rfl | (simp only [List.length_drop, List.length_take]; rfl)) ?_; (with_reducible refine (sloperef3_In.calls a1_0 _ _ l1_1 x5_2 t106 _ ?side1 ?side2 A31.out).mono ?_); (case side1 => repeat (first | exact (Kd.C_below HR1_1.out HB.out) | (with_reducible refine Kd.C_alloc ?_ _) | (with_reducible refine Kd.C_drewN ?_ _) | (with_reducible refine Kd.C_drew ?_))); (case side2 => exact HC1_1.out); rintro e w48 ⟨rfl, hb⟩; refine ⟨_, rfl, ?_⟩; have n0_ := Aside0.mk (blk_below (g := gb101) (o := .cells #[.int .i64 a0_0, .slice A0_1 l0_1.length c0_1] 26 (0, 0)) (by (with_reducible repeat (first | refine blk_drewN ?_ _ | refine blk_drew ?_ | refine blk_alloc ?_ _)); exact BK101.out) hb); have n1_ := Aside0.mk (blk_below (g := gb102) (o := .cells #[.int .i64 a1_0, .slice A1_1 l1_1.length c1_1] 26 (0, 0)) (by (with_reducible repeat (first | refine blk_drewN ?_ _ | refine blk_drew ?_ | refine blk_alloc ?_ _)); exact BK102.out) hb); have n2_ := Aside0.mk (below_step (by repeat (first | (with_reducible first | exact HB.out | apply below_alloc | apply pw_below_drewN | apply below_drew1 | refine below_set ?_ GE101.out | refine below_set ?_ GE102.out) | exact HB.out)) hb); clear BK101; clear BK102; clear HB; have BK101 := n0_; have BK102 := n1_; have HB := n2_; clear n0_ n1_ n2_; (try clear hb); (try clear hb2); (try clear hk); (try clear hi)))
                    go_roundg k2
                    case measure => have := HJ2.out; have := HK2.out; omega
                    case rel => exact ⟨(wrap64 (x5_2 - 1)), (by first | rfl | (simp; done) | (simp [*]; done)), H', ⟨by have := HJ2.out; have := HK2.out; omega⟩, ⟨by (with_reducible repeat (first | refine blk_drewN ?_ _ | refine blk_drew ?_ | refine blk_alloc ?_ _)); exact BK101.out⟩, ⟨by (with_reducible repeat (first | refine blk_drewN ?_ _ | refine blk_drew ?_ | refine blk_alloc ?_ _)); exact BK102.out⟩, ⟨by repeat (first | (with_reducible first | exact HB.out | apply below_alloc | apply pw_below_drewN | apply below_drew1 | refine below_set ?_ GE101.out | refine below_set ?_ GE102.out) | exact HB.out)⟩⟩
                · rw [if_neg c29] at H
                  have c29b0 : decide (0 ≤ x5_2) = false := decide_eq_false c29
                  clear c29
                  obtain rfl := Option.some.inj H
                  go_wp2
                  go_ret
                  exact ⟨by first | rfl | (simp [errW_none, errW_some] <;> rfl) | (simp [*, errW_none, errW_some] <;> rfl), by repeat (first | (with_reducible first | exact HB.out | apply below_alloc | apply pw_below_drewN | apply below_drew1 | refine below_set ?_ GE101.out | refine below_set ?_ GE102.out) | exact HB.out)⟩
end Go.Proofs.Ytjmkhdhffmlhiaa.PAll
end
section
namespace Go.Proofs.Ytjmkhdhffmlhiaa.PAll
open Go.RowKit Go.Proofs.YtjmkhdhffmlhiaaW.PrintWords Go.Proofs.YtjmkhdhffmlhiaaW.PrintLast Go.Proofs.YtjmkhdhffmlhiaaW.PrintMore
attribute [local go_sem] max2_int min2_int max_two min_two max_three min_three max_four min_four w64_u8 w64_mod256   -- for this text's walks alone
set_option linter.unusedVariables false
set_option linter.unusedSimpArgs false
def slopelaw3_num.f (a0 : Int) : Option (Int) := some a0
set_option maxHeartbeats 8000000 in
set_option maxRecDepth 100000 in
theorem slopelaw3_num.calls (a0 : Int) (r : Int) (w : World) (h : slopelaw3_num.f a0 = some r) :
    Calls Try.prog 19 #[.int .i64 a0] w fun e w' => e = .returned (.int .i64 r) ∧ Drawn0 w w' := by
  have H : (some a0) = some r := h
  clear h
  obtain rfl := Option.some.inj H
  go_enter Try.func19, Try.ntmps19
  go_wp2
  go_ret
  exact ⟨by first | rfl | (simp; done) | (simp [*]; done), by repeat (first | exact Drawn0.refl _ | apply Drawn0.step)⟩
end Go.Proofs.Ytjmkhdhffmlhiaa.PAll
end
section
namespace Go.Proofs.Ytjmkhdhffmlhiaa.PAll
open Go.RowKit Go.Proofs.YtjmkhdhffmlhiaaW.PrintWords Go.Proofs.YtjmkhdhffmlhiaaW.PrintLast Go.Proofs.YtjmkhdhffmlhiaaW.PrintMore
set_option maxHeartbeats 8000000 in
set_option maxRecDepth 100000 in
theorem BitPairs_walk (n0 : Int) (A0 : Option Addr) (c0 : Nat) (l0 : List Int) (n1 : Int) (A1 : Option Addr) (c1 : Nat) (l1 : List Int) (w : World) (hr0 : Kd.C (Kd.int .u64) w A0 l0.length l0) (hc_HC : l0.length ≤ c0) (hn_s : l0.length * 8 ≤ 140737488351232)
    (hr1 : Kd.C (Kd.int .u64) w A1 l1.length l1) (hc_HC2 : l1.length ≤ c1) (hn_t : l1.length * 8 ≤ 140737488351232)
    (k : Nat) (s1 : Int) (ws1 : List Int) (e1 : Int) (s2 : Int) (ws2 : List Int) (e2 : Int) (s3 : Int) (ws3 : List Int) (e3 : Int) (bx by_ bz : Bool) (cc : Int)
    (hM : bitset_Minus.f k n0 l0 n1 l1 = some (s1, ws1, e1)) (hM2 : sloperef3_Minus.f k n0 l0 n1 l1 false = some (s1, ws1, e1)) (hD : bitset_Differ.f k n0 l0 n1 l1 = some (s2, ws2, e2)) (hD2 : sloperef3_Minus.f k n0 l0 n1 l1 true = some (s2, ws2, e2)) (hR : bitset_Rest.f k n0 l0 = some (s3, ws3, e3)) (hR2 : sloperef3_Rest.f k n0 l0 = some (s3, ws3, e3))
    (hX : sloperef3_Related.f k n0 l0 n1 l1 = some (bx, by_, bz)) (hXx : bitset_Equal.f k n0 l0 n1 l1 = some bx) (hXy : bitset_Subset.f k n0 l0 n1 l1 = some by_) (hXz : bitset_Disjoint.f k n0 l0 n1 l1 = some bz) (hQ : bitset_Compare.f k n0 l0 n1 l1 = some cc) (hQ2 : sloperef3_Compare.f k n0 l0 n1 l1 = some cc)
    (hS : slopelaw3_same.f k s1 ws1 s1 ws1 = some true) (hS2 : slopelaw3_same.f k s2 ws2 s2 ws2 = some true) (hS3 : slopelaw3_same.f k s3 ws3 s3 ws3 = some true) :
    Calls Try.prog 9 #[.agg #[.int .i64 n0, .slice A0 l0.length c0], .agg #[.int .i64 n1, .slice A1 l1.length c1]] w fun e w' => e = .returned (.bool true) ∧ Below w.heap.size w w' := by
  have hu26 := Try.underlying26
  have HC := Aside0.mk hr0
  have HC2 := Aside0.mk hr1
  have HM := Aside0.mk hM
  have HM2 := Aside0.mk hM2
  have HD := Aside0.mk hD
  have HD2 := Aside0.mk hD2
  have HR := Aside0.mk hR
  have HR2 := Aside0.mk hR2
  have HX := Aside0.mk hX
  have HXx := Aside0.mk hXx
  have HXy := Aside0.mk hXy
  have HXz := Aside0.mk hXz
  have HQ := Aside0.mk hQ
  have HQ2 := Aside0.mk hQ2
  have HS := Aside0.mk hS
  have HS2 := Aside0.mk hS2
  have HS3 := Aside0.mk hS3
  have HB := Aside0.mk (Below.refl w.heap.size w)
  clear hr0 hr1 hM hM2 hD hD2 hR hR2 hX hXx hXy hXz hQ hQ2 hS hS2 hS3
  go_enter Try.func9, Try.ntmps9
  go_upto_region 1 with (first | ((with_reducible refine gate_dst (N := 2) rfl ?_); (try (refine gate_guard (by rfl) ?_; dsimp only)); refine box_event ?hg (N := 2) ?hd (cs := #[.int .i64 n0, .slice A0 l0.length c0]) (t := 26) ?hr ?_; (case hd => rfl); (case hg => rfl); (case hr => first | (go_simp; done) | (go_simp; rfl)); intro gb101 hg w4 hbox hb; have n0_ := Aside0.mk (below_step (by repeat (first | (with_reducible first | exact HB.out | apply below_alloc | apply pw_below_drewN | apply below_drew1) | exact HB.out)) hb); have n1_ := Aside0.mk (hbox); have n2_ := Aside0.mk ((by rw [hg]; exact (below_size (by repeat (first | (with_reducible first | exact HB.out | apply below_alloc | apply pw_below_drewN | apply below_drew1) | exact HB.out))) : w.heap.size ≤ gb101)); have n3_ := Aside0.mk ((by rw [hg]; exact (below_size (by repeat (first | (with_reducible first | exact HB.out | apply below_alloc | apply pw_below_drewN | apply below_drew1) | exact HB.out))) : w.heap.size ≤ gb101)); clear HB; have HB := n0_; have BK101 := n1_; have GW101 := n2_; have GE101 := n3_; clear n0_ n1_ n2_ n3_; clear hb hbox hg) | ((with_reducible refine gate_dst (N := 3) rfl ?_); (try (refine gate_guard (by rfl) ?_; dsimp only)); refine box_event ?hg (N := 3) ?hd (cs := #[.int .i64 n1, .slice A1 l1.length c1]) (t := 26) ?hr ?_; (case hd => rfl); (case hg => rfl); (case hr => first | (go_simp; done) | (go_simp; rfl)); intro gb102 hg w5 hbox hb; have n0_ := Aside0.mk (blk_below (g := gb101) (o := .cells #[.int .i64 n0, .slice A0 l0.length c0] 26 (0, 0)) (by (with_reducible repeat (first | refine blk_drewN ?_ _ | refine blk_drew ?_ | refine blk_alloc ?_ _)); exact BK101.out) hb); have n1_ := Aside0.mk (below_step (by repeat (first | (with_reducible first | exact HB.out | apply below_alloc | apply pw_below_drewN | apply below_drew1 | refine below_set ?_ GE101.out) | exact HB.out)) hb); have n2_ := Aside0.mk (hbox); have n3_ := Aside0.mk ((by rw [hg]; exact (below_size (by repeat (first | (with_reducible first | exact HB.out | apply below_alloc | apply pw_below_drewN | apply below_drew1 | refine below_set ?_ GE101.out) | exact HB.out))) : w.heap.size ≤ gb102)); have n4_ := Aside0.mk ((by rw [hg]; exact (below_size (by repeat (first | (with_reducible first | exact HB.out | apply below_alloc | apply pw_below_drewN | apply below_drew1 | refine below_set ?_ GE101.out) | exact HB.out))) : w.heap.size ≤ gb102)); have n5_ := Aside0.mk ((by rw [hg]; exact Nat.ne_of_lt (blk_lt (g := gb101) (o := .cells #[.int .i64 n0, .slice A0 l0.length c0] 26 (0, 0)) (by (with_reducible repeat (first | refine blk_drewN ?_ _ | refine blk_drew ?_ | refine blk_alloc ?_ _)); exact BK101.out)) : gb101 ≠ gb102)); have n6_ := Aside0.mk ((by rw [hg]; exact Nat.ne_of_gt (blk_lt (g := gb101) (o := .cells #[.int .i64 n0, .slice A0 l0.length c0] 26 (0, 0)) (by (with_reducible repeat (first | refine blk_drewN ?_ _ | refine blk_drew ?_ | refine blk_alloc ?_ _)); exact BK101.out)) : gb102 ≠ gb101)); clear BK101; clear HB; have BK101 := n0_; have HB := n1_; have BK102 := n2_; have GW102 := n3_; have GE102 := n4_; have NB101_102 := n5_; have NB102_101 := n6_; clear n0_ n1_ n2_ n3_ n4_ n5_ n6_; clear hb hbox hg))
  repeat (go_quiet (first | ((with_reducible refine gate_dst (N := 2) rfl ?_); (try (refine gate_guard (by rfl) ?_; dsimp only)); refine box_event ?hg (N := 2) ?hd (cs := #[.int .i64 n0, .slice A0 l0.length c0]) (t := 26) ?hr ?_; (case hd => rfl); (case hg => rfl); (case hr => first | (go_simp; done) | (go_simp; rfl)); intro gb101 hg w4 hbox hb; have n0_ := Aside0.mk (below_step (by repeat (first | (with_reducible first | exact HB.out | apply below_alloc | apply pw_below_drewN | apply below_drew1) | exact HB.out)) hb); have n1_ := Aside0.mk (hbox); have n2_ := Aside0.mk ((by rw [hg]; exact (below_size (by repeat (first | (with_reducible first | exact HB.out | apply below_alloc | apply pw_below_drewN | apply below_drew1) | exact HB.out))) : w.heap.size ≤ gb101)); have n3_ := Aside0.mk ((by rw [hg]; exact (below_size (by repeat (first | (with_reducible first | exact HB.out | apply below_alloc | apply pw_below_drewN | apply below_drew1) | exact HB.out))) : w.heap.size ≤ gb101)); clear HB; have HB := n0_; have BK101 := n1_; have GW101 := n2_; have GE101 := n3_; clear n0_ n1_ n2_ n3_; clear hb hbox hg) | ((with_reducible refine gate_dst (N := 3) rfl ?_); (try (refine gate_guard (by rfl) ?_; dsimp only)); refine box_event ?hg (N := 3) ?hd (cs := #[.int .i64 n1, .slice A1 l1.length c1]) (t := 26) ?hr ?_; (case hd => rfl); (case hg => rfl); (case hr => first | (go_simp; done) | (go_simp; rfl)); intro gb102 hg w5 hbox hb; have n0_ := Aside0.mk (blk_below (g := gb101) (o := .cells #[.int .i64 n0, .slice A0 l0.length c0] 26 (0, 0)) (by (with_reducible repeat (first | refine blk_drewN ?_ _ | refine blk_drew ?_ | refine blk_alloc ?_ _)); exact BK101.out) hb); have n1_ := Aside0.mk (below_step (by repeat (first | (with_reducible first | exact HB.out | apply below_alloc | apply pw_below_drewN | apply below_drew1 | refine below_set ?_ GE101.out) | exact HB.out)) hb); have n2_ := Aside0.mk (hbox); have n3_ := Aside0.mk ((by rw [hg]; exact (below_size (by repeat (first | (with_reducible first | exact HB.out | apply below_alloc | apply pw_below_drewN | apply below_drew1 | refine below_set ?_ GE101.out) | exact HB.out))) : w.heap.size ≤ gb102)); have n4_ := Aside0.mk ((by rw [hg]; exact (below_size (by repeat (first | (with_reducible first | exact HB.out | apply below_alloc | apply pw_below_drewN | apply below_drew1 | refine below_set ?_ GE101.out) | exact HB.out))) : w.heap.size ≤ gb102)); have n5_ := Aside0.mk ((by rw [hg]; exact Nat.ne_of_lt (blk_lt (g := gb101) (o := .cells #[.int .i64 n0, .slice A0 l0.length c0] 26 (0, 0)) (by (with_reducible repeat (first | refine blk_drewN ?_ _ | refine blk_drew ?_ | refine blk_alloc ?_ _)); exact BK101.out)) : gb101 ≠ gb102)); have n6_ := Aside0.mk ((by rw [hg]; exact Nat.ne_of_gt (blk_lt (g := gb101) (o := .cells #[.int .i64 n0, .slice A0 l0.length c0] 26 (0, 0)) (by (with_reducible repeat (first | refine blk_drewN ?_ _ | refine blk_drew ?_ | refine blk_alloc ?_ _)); exact BK101.out)) : gb102 ≠ gb101)); clear BK101; clear HB; have BK101 := n0_; have HB := n1_; have BK102 := n2_; have GW102 := n3_; have GE102 := n4_; have NB101_102 := n5_; have NB102_101 := n6_; clear n0_ n1_ n2_ n3_ n4_ n5_ n6_; clear hb hbox hg)); go_upto_region 1 with (first | ((with_reducible refine gate_dst (N := 2) rfl ?_); (try (refine gate_guard (by rfl) ?_; dsimp only)); refine box_event ?hg (N := 2) ?hd (cs := #[.int .i64 n0, .slice A0 l0.length c0]) (t := 26) ?hr ?_; (case hd => rfl); (case hg => rfl); (case hr => first | (go_simp; done) | (go_simp; rfl)); intro gb101 hg w4 hbox hb; have n0_ := Aside0.mk (below_step (by repeat (first | (with_reducible first | exact HB.out | apply below_alloc | apply pw_below_drewN | apply below_drew1) | exact HB.out)) hb); have n1_ := Aside0.mk (hbox); have n2_ := Aside0.mk ((by rw [hg]; exact (below_size (by repeat (first | (with_reducible first | exact HB.out | apply below_alloc | apply pw_below_drewN | apply below_drew1) | exact HB.out))) : w.heap.size ≤ gb101)); have n3_ := Aside0.mk ((by rw [hg]; exact (below_size (by repeat (first | (with_reducible first | exact HB.out | apply below_alloc | apply pw_below_drewN | apply below_drew1) | exact HB.out))) : w.heap.size ≤ gb101)); clear HB; have HB := n0_; have BK101 := n1_; have GW101 := n2_; have GE101 := n3_; clear n0_ n1_ n2_ n3_; clear hb hbox hg) | ((with_reducible refine gate_dst (N := 3) rfl ?_); (try (refine gate_guard (by rfl) ?_; dsimp only)); refine box_event ?hg (N := 3) ?hd (cs := #[.int .i64 n1, .slice A1 l1.length c1]) (t := 26) ?hr ?_; (case hd => rfl); (case hg => rfl); (case hr => first | (go_simp; done) | (go_simp; rfl)); intro gb102 hg w5 hbox hb; have n0_ := Aside0.mk (blk_below (g := gb101) (o := .cells #[.int .i64 n0, .slice A0 l0.length c0] 26 (0, 0)) (by (with_reducible repeat (first | refine blk_drewN ?_ _ | refine blk_drew ?_ | refine blk_alloc ?_ _)); exact BK101.out) hb); have n1_ := Aside0.mk (below_step (by repeat (first | (with_reducible first | exact HB.out | apply below_alloc | apply pw_below_drewN | apply below_drew1 | refine below_set ?_ GE101.out) | exact HB.out)) hb); have n2_ := Aside0.mk (hbox); have n3_ := Aside0.mk ((by rw [hg]; exact (below_size (by repeat (first | (with_reducible first | exact HB.out | apply below_alloc | apply pw_below_drewN | apply below_drew1 | refine below_set ?_ GE101.out) | exact HB.out))) : w.heap.size ≤ gb102)); have n4_ := Aside0.mk ((by rw [hg]; exact (below_size (by repeat (first | (with_reducible first | exact HB.out | apply below_alloc | apply pw_below_drewN | apply below_drew1 | refine below_set ?_ GE101.out) | exact HB.out))) : w.heap.size ≤ gb102)); have n5_ := Aside0.mk ((by rw [hg]; exact Nat.ne_of_lt (blk_lt (g := gb101) (o := .cells #[.int .i64 n0, .slice A0 l0.length c0] 26 (0, 0)) (by (with_reducible repeat (first | refine blk_drewN ?_ _ | refine blk_drew ?_ | refine blk_alloc ?_ _)); exact BK101.out)) : gb101 ≠ gb102)); have n6_ := Aside0.mk ((by rw [hg]; exact Nat.ne_of_gt (blk_lt (g := gb101) (o := .cells #[.int .i64 n0, .slice A0 l0.length c0] 26 (0, 0)) (by (with_reducible repeat (first | refine blk_drewN ?_ _ | refine blk_drew ?_ | refine blk_alloc ?_ _)); exact BK101.out)) : gb102 ≠ gb101)); clear BK101; clear HB; have BK101 := n0_; have HB := n1_; have BK102 := n2_; have GW102 := n3_; have GE102 := n4_; have NB101_102 := n5_; have NB102_101 := n6_; clear n0_ n1_ n2_ n3_ n4_ n5_ n6_; clear hb hbox hg)))
  (try simp only [Act.put, List.setIfInBounds_toArray, List.set_cons_zero, List.set_cons_succ])
  have HC' := Aside0.mk (Kd.C_below HC.out HB.out)
  have HC2' := Aside0.mk (Kd.C_below HC2.out HB.out)
  clear HC HC2
  have HC := HC'
  have HC2 := HC2'
  clear HC' HC2'
  have qBK1010 := (blk_cell BK101.out 0).trans rfl
  have zqBK1010 := blk_frozen BK101.out 0
  have qBK1011 := (blk_cell BK101.out 1).trans rfl
  have zqBK1011 := blk_frozen BK101.out 1
  go_wp2_with (first
    | ((with_reducible refine gate_callee (f := 21) rfl ?_)
       refine goesL_ (some 23) rfl rfl Try.func21 (by kernel_rfl) rfl #[.agg #[.int .i64 n0, .slice A0 l0.length c0]] rfl (by (try simp only [List.map_toArray, List.map_cons, List.map_nil]); first | done | rfl) ?_
       (with_reducible refine (twin_marked n0 A0 c0 l0 _ ?s1 hc_HC hn_s).mono ?_)
       (case s1 => exact (by repeat (first | exact HC.out | (with_reducible refine Kd.C_alloc ?_ _) | (with_reducible refine Kd.C_drewN ?_ _) | (with_reducible refine Kd.C_drew ?_))))
       rintro e w6 ⟨gu, capu, rfl, ho, hb⟩
       refine ⟨_, rfl, ?_⟩
       have n0_ : Aside0 (Below w.heap.size w w6) := ⟨below_step (by repeat (first | (with_reducible first | exact HB.out | apply below_alloc | apply pw_below_drewN | apply below_drew1) | exact HB.out)) hb⟩
       have n1_ : Aside0 (Kd.C (Kd.int .u64) w6 A0 l0.length l0) := ⟨Kd.C_below (by repeat (first | exact HC.out | (with_reducible refine Kd.C_alloc ?_ _) | (with_reducible refine Kd.C_drewN ?_ _) | (with_reducible refine Kd.C_drew ?_))) hb⟩
       have n2_ : Aside0 (Kd.C (Kd.int .u64) w6 A1 l1.length l1) := ⟨Kd.C_below (by repeat (first | exact HC2.out | (with_reducible refine Kd.C_alloc ?_ _) | (with_reducible refine Kd.C_drewN ?_ _) | (with_reducible refine Kd.C_drew ?_))) hb⟩
       have n3_ : Aside0 (w6.heap[gb101]? = some (.cells #[.int .i64 n0, .slice A0 l0.length c0] 26 (0, 0))) := ⟨blk_below (by (with_reducible repeat (first | refine blk_drewN ?_ _ | refine blk_drew ?_ | refine blk_alloc ?_ _)); exact BK101.out) hb⟩
       have n4_ : Aside0 (w6.heap[gb102]? = some (.cells #[.int .i64 n1, .slice A1 l1.length c1] 26 (0, 0))) := ⟨blk_below (by (with_reducible repeat (first | refine blk_drewN ?_ _ | refine blk_drew ?_ | refine blk_alloc ?_ _)); exact BK102.out) hb⟩
       clear HB HC HC2 BK101 BK102
       have HB := n0_
       have HC := n1_
       have HC2 := n2_
       have BK101 := n3_
       have BK102 := n4_
       clear n0_ n1_ n2_ n3_ n4_
       have HTu : Aside0 (Kd.R (Kd.int .u64) 82 w6 w5.heap.size (fun _ => True) (.slice (some ⟨gu, 0, none⟩) (l0 ++ [theMark]).length capu) (l0 ++ [theMark])) := ⟨ho⟩
       clear qBK1010 zqBK1010 qBK1011 zqBK1011
       have qBK1020 := (blk_cell (blk_alloc BK102.out (.cells #[.int .i64 n0, .slice (some ⟨gu, 0, none⟩) l0.length capu] 26 (0, 0))) 0).trans rfl
       have zqBK1020 := blk_frozen (blk_alloc BK102.out (.cells #[.int .i64 n0, .slice (some ⟨gu, 0, none⟩) l0.length capu] 26 (0, 0))) 0
       have qBK1021 := (blk_cell (blk_alloc BK102.out (.cells #[.int .i64 n0, .slice (some ⟨gu, 0, none⟩) l0.length capu] 26 (0, 0))) 1).trans rfl
       have zqBK1021 := blk_frozen (blk_alloc BK102.out (.cells #[.int .i64 n0, .slice (some ⟨gu, 0, none⟩) l0.length capu] 26 (0, 0))) 1
       clear hb ho)
    | ((with_reducible refine gate_callee (f := 21) rfl ?_)
       refine goesL_ (some 25) rfl rfl Try.func21 (by kernel_rfl) rfl #[.agg #[.int .i64 n1, .slice A1 l1.length c1]] rfl (by (try simp only [List.map_toArray, List.map_cons, List.map_nil]); first | done | rfl) ?_
       (with_reducible refine (twin_marked n1 A1 c1 l1 _ ?s1 hc_HC2 hn_t).mono ?_)
       (case s1 => exact (by repeat (first | exact HC2.out | (with_reducible refine Kd.C_alloc ?_ _) | (with_reducible refine Kd.C_drewN ?_ _) | (with_reducible refine Kd.C_drew ?_))))
       rintro e w7 ⟨gv, capv, rfl, ho, hb⟩
       refine ⟨_, rfl, ?_⟩
       have n0_ : Aside0 (Below w.heap.size w w7) := ⟨below_step (by repeat (first | (with_reducible first | exact HB.out | apply below_alloc | apply pw_below_drewN | apply below_drew1) | exact HB.out)) hb⟩
       have n1_ : Aside0 (Kd.C (Kd.int .u64) w7 A0 l0.length l0) := ⟨Kd.C_below (by repeat (first | exact HC.out | (with_reducible refine Kd.C_alloc ?_ _) | (with_reducible refine Kd.C_drewN ?_ _) | (with_reducible refine Kd.C_drew ?_))) hb⟩
       have n2_ : Aside0 (Kd.C (Kd.int .u64) w7 A1 l1.length l1) := ⟨Kd.C_below (by repeat (first | exact HC2.out | (with_reducible refine Kd.C_alloc ?_ _) | (with_reducible refine Kd.C_drewN ?_ _) | (with_reducible refine Kd.C_drew ?_))) hb⟩
       have n3_ : Aside0 (w7.heap[gb101]? = some (.cells #[.int .i64 n0, .slice A0 l0.length c0] 26 (0, 0))) := ⟨blk_below (by (with_reducible repeat (first | refine blk_drewN ?_ _ | refine blk_drew ?_ | refine blk_alloc ?_ _)); exact BK101.out) hb⟩
       have n4_ : Aside0 (w7.heap[gb102]? = some (.cells #[.int .i64 n1, .slice A1 l1.length c1] 26 (0, 0))) := ⟨blk_below (by (with_reducible repeat (first | refine blk_drewN ?_ _ | refine blk_drew ?_ | refine blk_alloc ?_ _)); exact BK102.out) hb⟩
       have n5_ : Aside0 (Kd.R (Kd.int .u64) 82 w7 w5.heap.size (fun _ => True) (.slice (some ⟨gu, 0, none⟩) (l0 ++ [theMark]).length capu) (l0 ++ [theMark])) := ⟨Kd.R_below (by (with_reducible repeat (first | apply Kd.R_alloc | apply Kd.R_drewN | apply Kd.R_drew)); exact HTu.out) hb⟩
       have n6_ : Aside0 (w7.heap[w6.heap.size]? = some (.cells #[.int .i64 n0, .slice (some ⟨gu, 0, none⟩) l0.length capu] 26 (0, 0))) := ⟨blk_below (by (with_reducible repeat (first | exact blk_new _ _ | refine blk_drewN ?_ _ | refine blk_drew ?_ | refine blk_alloc ?_ _))) hb⟩
       clear HB HC HC2 BK101 BK102 HTu
       have HB := n0_
       have HC := n1_
       have HC2 := n2_
       have BK101 := n3_
       have BK102 := n4_
       have HTu := n5_
       have Ku := n6_
       clear n0_ n1_ n2_ n3_ n4_ n5_ n6_
       have HTv : Aside0 (Kd.R (Kd.int .u64) 82 w7 (w6.alloc (.cells #[.int .i64 n0, .slice (some ⟨gu, 0, none⟩) l0.length capu] 26 (0, 0))).heap.size (fun _ => True) (.slice (some ⟨gv, 0, none⟩) (l1 ++ [theMark]).length capv) (l1 ++ [theMark])) := ⟨ho⟩
       clear qBK1020 zqBK1020 qBK1021 zqBK1021
       have qKu0 := (blk_cell (blk_alloc Ku.out (.cells #[.int .i64 n1, .slice (some ⟨gv, 0, none⟩) l1.length capv] 26 (0, 0))) 0).trans rfl
       have zqKu0 := blk_frozen (blk_alloc Ku.out (.cells #[.int .i64 n1, .slice (some ⟨gv, 0, none⟩) l1.length capv] 26 (0, 0))) 0
       have qKu1 := (blk_cell (blk_alloc Ku.out (.cells #[.int .i64 n1, .slice (some ⟨gv, 0, none⟩) l1.length capv] 26 (0, 0))) 1).trans rfl
       have zqKu1 := blk_frozen (blk_alloc Ku.out (.cells #[.int .i64 n1, .slice (some ⟨gv, 0, none⟩) l1.length capv] 26 (0, 0))) 1
       clear hb ho)
    | ((with_reducible refine gate_callee (f := 41) rfl ?_)
       refine goesL_ (some 29) rfl rfl Try.func41 (by kernel_rfl) rfl #[.agg #[.int .i64 n0, .slice (some ⟨gu, 0, none⟩) l0.length capu], .agg #[.int .i64 n1, .slice (some ⟨gv, 0, none⟩) l1.length capv]] rfl (by (try simp only [List.map_toArray, List.map_cons, List.map_nil]); first | done | rfl) ?_
       (with_reducible refine (bitset_Minus.calls k n0 _ _ l0 n1 _ _ l1 s1 ws1 e1 _ ?s1a ?s1b ?s2a ?s2b HM.out).mono ?_)
       (case s1a => exact (wmarked_reads (by (with_reducible repeat (first | apply Kd.R_alloc | apply Kd.R_drewN | apply Kd.R_drew)); exact HTu.out)))
       (case s1b => exact (wmarked_fits HTu.out))
       (case s2a => exact (wmarked_reads (by (with_reducible repeat (first | apply Kd.R_alloc | apply Kd.R_drewN | apply Kd.R_drew)); exact HTv.out)))
       (case s2b => exact (wmarked_fits HTv.out))
       rintro e w8 ⟨vc, rfl, ho, hb⟩
       obtain ⟨AHc, cHc, eHc⟩ := Kd.R_slice ho
       subst eHc
       refine ⟨_, rfl, ?_⟩
       have n0_ : Aside0 (Below w.heap.size w w8) := ⟨below_step (by repeat (first | (with_reducible first | exact HB.out | apply below_alloc | apply pw_below_drewN | apply below_drew1) | exact HB.out)) hb⟩
       have n1_ : Aside0 (Kd.C (Kd.int .u64) w8 A0 l0.length l0) := ⟨Kd.C_below (by repeat (first | exact HC.out | (with_reducible refine Kd.C_alloc ?_ _) | (with_reducible refine Kd.C_drewN ?_ _) | (with_reducible refine Kd.C_drew ?_))) hb⟩
       have n2_ : Aside0 (Kd.C (Kd.int .u64) w8 A1 l1.length l1) := ⟨Kd.C_below (by repeat (first | exact HC2.out | (with_reducible refine Kd.C_alloc ?_ _) | (with_reducible refine Kd.C_drewN ?_ _) | (with_reducible refine Kd.C_drew ?_))) hb⟩
       have n3_ : Aside0 (w8.heap[gb101]? = some (.cells #[.int .i64 n0, .slice A0 l0.length c0] 26 (0, 0))) := ⟨blk_below (by (with_reducible repeat (first | refine blk_drewN ?_ _ | refine blk_drew ?_ | refine blk_alloc ?_ _)); exact BK101.out) hb⟩
       have n4_ : Aside0 (w8.heap[gb102]? = some (.cells #[.int .i64 n1, .slice A1 l1.length c1] 26 (0, 0))) := ⟨blk_below (by (with_reducible repeat (first | refine blk_drewN ?_ _ | refine blk_drew ?_ | refine blk_alloc ?_ _)); exact BK102.out) hb⟩
       have n5_ : Aside0 (Kd.R (Kd.int .u64) 82 w8 w5.heap.size (fun _ => True) (.slice (some ⟨gu, 0, none⟩) (l0 ++ [theMark]).length capu) (l0 ++ [theMark])) := ⟨Kd.R_below (by (with_reducible repeat (first | apply Kd.R_alloc | apply Kd.R_drewN | apply Kd.R_drew)); exact HTu.out) hb⟩
       have n6_ : Aside0 (w8.heap[w6.heap.size]? = some (.cells #[.int .i64 n0, .slice (some ⟨gu, 0, none⟩) l0.length capu] 26 (0, 0))) := ⟨blk_below (by (with_reducible repeat (first | refine blk_drewN ?_ _ | refine blk_drew ?_ | refine blk_alloc ?_ _)); exact Ku.out) hb⟩
       have n7_ : Aside0 (Kd.R (Kd.int .u64) 82 w8 (w6.alloc (.cells #[.int .i64 n0, .slice (some ⟨gu, 0, none⟩) l0.length capu] 26 (0, 0))).heap.size (fun _ => True) (.slice (some ⟨gv, 0, none⟩) (l1 ++ [theMark]).length capv) (l1 ++ [theMark])) := ⟨Kd.R_below (by (with_reducible repeat (first | apply Kd.R_alloc | apply Kd.R_drewN | apply Kd.R_drew)); exact HTv.out) hb⟩
       have n8_ : Aside0 (w8.heap[w7.heap.size]? = some (.cells #[.int .i64 n1, .slice (some ⟨gv, 0, none⟩) l1.length capv] 26 (0, 0))) := ⟨blk_below (by (with_reducible repeat (first | exact blk_new _ _ | refine blk_drewN ?_ _ | refine blk_drew ?_ | refine blk_alloc ?_ _))) hb⟩
       clear HB HC HC2 BK101 BK102 HTu Ku HTv
       have HB := n0_
       have HC := n1_
       have HC2 := n2_
       have BK101 := n3_
       have BK102 := n4_
       have HTu := n5_
       have Ku := n6_
       have HTv := n7_
       have Kv := n8_
       clear n0_ n1_ n2_ n3_ n4_ n5_ n6_ n7_ n8_
       have Hc : Aside0 (Kd.R (Kd.int .u64) 82 w8 (w7.alloc (.cells #[.int .i64 n1, .slice (some ⟨gv, 0, none⟩) l1.length capv] 26 (0, 0))).heap.size (fun _ => True) (.slice AHc ws1.length cHc) ws1) := ⟨ho⟩
       clear qKu0 zqKu0 qKu1 zqKu1
       have qBK1010 := (blk_cell (blk_alloc BK101.out (.cells #[.int .i64 s1, .slice AHc ws1.length cHc] 26 (0, 0))) 0).trans rfl
       have zqBK1010 := blk_frozen (blk_alloc BK101.out (.cells #[.int .i64 s1, .slice AHc ws1.length cHc] 26 (0, 0))) 0
       have qBK1011 := (blk_cell (blk_alloc BK101.out (.cells #[.int .i64 s1, .slice AHc ws1.length cHc] 26 (0, 0))) 1).trans rfl
       have zqBK1011 := blk_frozen (blk_alloc BK101.out (.cells #[.int .i64 s1, .slice AHc ws1.length cHc] 26 (0, 0))) 1
       have qBK1020 := (blk_cell (blk_alloc BK102.out (.cells #[.int .i64 s1, .slice AHc ws1.length cHc] 26 (0, 0))) 0).trans rfl
       have zqBK1020 := blk_frozen (blk_alloc BK102.out (.cells #[.int .i64 s1, .slice AHc ws1.length cHc] 26 (0, 0))) 0
       have qBK1021 := (blk_cell (blk_alloc BK102.out (.cells #[.int .i64 s1, .slice AHc ws1.length cHc] 26 (0, 0))) 1).trans rfl
       have zqBK1021 := blk_frozen (blk_alloc BK102.out (.cells #[.int .i64 s1, .slice AHc ws1.length cHc] 26 (0, 0))) 1
       clear hb ho)
    | ((with_reducible refine gate_callee (f := 42) rfl ?_)
       refine goesL_ (some 35) rfl rfl Try.func42 (by kernel_rfl) rfl #[.agg #[.int .i64 n0, .slice A0 l0.length c0], .agg #[.int .i64 n1, .slice A1 l1.length c1], .bool false] rfl (by (try simp only [List.map_toArray, List.map_cons, List.map_nil]); first | done | rfl) ?_
       (with_reducible refine (sloperef3_Minus.calls k n0 _ _ l0 n1 _ _ l1 false s1 ws1 e1 _ ?s1a ?s1b ?s2a ?s2b HM2.out).mono ?_)
       (case s1a => exact (by repeat (first | exact HC.out | (with_reducible refine Kd.C_alloc ?_ _) | (with_reducible refine Kd.C_drewN ?_ _) | (with_reducible refine Kd.C_drew ?_))))
       (case s1b => exact (hc_HC))
       (case s2a => exact (by repeat (first | exact HC2.out | (with_reducible refine Kd.C_alloc ?_ _) | (with_reducible refine Kd.C_drewN ?_ _) | (with_reducible refine Kd.C_drew ?_))))
       (case s2b => exact (hc_HC2))
       rintro e w9 ⟨vd, rfl, ho, hb⟩
       obtain ⟨AHd, cHd, eHd⟩ := Kd.R_slice ho
       subst eHd
       refine ⟨_, rfl, ?_⟩
       have n0_ : Aside0 (Below w.heap.size w w9) := ⟨below_step (by repeat (first | (with_reducible first | exact HB.out | apply below_alloc | apply pw_below_drewN | apply below_drew1) | exact HB.out)) hb⟩
       have n1_ : Aside0 (Kd.C (Kd.int .u64) w9 A0 l0.length l0) := ⟨Kd.C_below (by repeat (first | exact HC.out | (with_reducible refine Kd.C_alloc ?_ _) | (with_reducible refine Kd.C_drewN ?_ _) | (with_reducible refine Kd.C_drew ?_))) hb⟩
       have n2_ : Aside0 (Kd.C (Kd.int .u64) w9 A1 l1.length l1) := ⟨Kd.C_below (by repeat (first | exact HC2.out | (with_reducible refine Kd.C_alloc ?_ _) | (with_reducible refine Kd.C_drewN ?_ _) | (with_reducible refine Kd.C_drew ?_))) hb⟩
       have n3_ : Aside0 (w9.heap[gb101]? = some (.cells #[.int .i64 n0, .slice A0 l0.length c0] 26 (0, 0))) := ⟨blk_below (by (with_reducible repeat (first | refine blk_drewN ?_ _ | refine blk_drew ?_ | refine blk_alloc ?_ _)); exact BK101.out) hb⟩
       have n4_ : Aside0 (w9.heap[gb102]? = some (.cells #[.int .i64 n1, .slice A1 l1.length c1] 26 (0, 0))) := ⟨blk_below (by (with_reducible repeat (first | refine blk_drewN ?_ _ | refine blk_drew ?_ | refine blk_alloc ?_ _)); exact BK102.out) hb⟩
       have n5_ : Aside0 (Kd.R (Kd.int .u64) 82 w9 w5.heap.size (fun _ => True) (.slice (some ⟨gu, 0, none⟩) (l0 ++ [theMark]).length capu) (l0 ++ [theMark])) := ⟨Kd.R_below (by (with_reducible repeat (first | apply Kd.R_alloc | apply Kd.R_drewN | apply Kd.R_drew)); exact HTu.out) hb⟩
       have n6_ : Aside0 (w9.heap[w6.heap.size]? = some (.cells #[.int .i64 n0, .slice (some ⟨gu, 0, none⟩) l0.length capu] 26 (0, 0))) := ⟨blk_below (by (with_reducible repeat (first | refine blk_drewN ?_ _ | refine blk_drew ?_ | refine blk_alloc ?_ _)); exact Ku.out) hb⟩
       have n7_ : Aside0 (Kd.R (Kd.int .u64) 82 w9 (w6.alloc (.cells #[.int .i64 n0, .slice (some ⟨gu, 0, none⟩) l0.length capu] 26 (0, 0))).heap.size (fun _ => True) (.slice (some ⟨gv, 0, none⟩) (l1 ++ [theMark]).length capv) (l1 ++ [theMark])) := ⟨Kd.R_below (by (with_reducible repeat (first | apply Kd.R_alloc | apply Kd.R_drewN | apply Kd.R_drew)); exact HTv.out) hb⟩
       have n8_ : Aside0 (w9.heap[w7.heap.size]? = some (.cells #[.int .i64 n1, .slice (some ⟨gv, 0, none⟩) l1.length capv] 26 (0, 0))) := ⟨blk_below (by (with_reducible repeat (first | refine blk_drewN ?_ _ | refine blk_drew ?_ | refine blk_alloc ?_ _)); exact Kv.out) hb⟩
       have n9_ : Aside0 (Kd.R (Kd.int .u64) 82 w9 (w7.alloc (.cells #[.int .i64 n1, .slice (some ⟨gv, 0, none⟩) l1.length capv] 26 (0, 0))).heap.size (fun _ => True) (.slice AHc ws1.length cHc) ws1) := ⟨Kd.R_below (by (with_reducible repeat (first | apply Kd.R_alloc | apply Kd.R_drewN | apply Kd.R_drew)); exact Hc.out) hb⟩
       have n10_ : Aside0 (w9.heap[w8.heap.size]? = some (.cells #[.int .i64 s1, .slice AHc ws1.length cHc] 26 (0, 0))) := ⟨blk_below (by (with_reducible repeat (first | exact blk_new _ _ | refine blk_drewN ?_ _ | refine blk_drew ?_ | refine blk_alloc ?_ _))) hb⟩
       clear HB HC HC2 BK101 BK102 HTu Ku HTv Kv Hc
       have HB := n0_
       have HC := n1_
       have HC2 := n2_
       have BK101 := n3_
       have BK102 := n4_
       have HTu := n5_
       have Ku := n6_
       have HTv := n7_
       have Kv := n8_
       have Hc := n9_
       have Kc := n10_
       clear n0_ n1_ n2_ n3_ n4_ n5_ n6_ n7_ n8_ n9_ n10_
       have Hd : Aside0 (Kd.R (Kd.int .u64) 82 w9 (w8.alloc (.cells #[.int .i64 s1, .slice AHc ws1.length cHc] 26 (0, 0))).heap.size (fun _ => True) (.slice AHd ws1.length cHd) ws1) := ⟨ho⟩
       clear qBK1010 zqBK1010 qBK1011 zqBK1011 qBK1020 zqBK1020 qBK1021 zqBK1021
       have qKu0 := (blk_cell (blk_alloc Ku.out (.cells #[.int .i64 s1, .slice AHd ws1.length cHd] 26 (0, 0))) 0).trans rfl
       have zqKu0 := blk_frozen (blk_alloc Ku.out (.cells #[.int .i64 s1, .slice AHd ws1.length cHd] 26 (0, 0))) 0
       have qKu1 := (blk_cell (blk_alloc Ku.out (.cells #[.int .i64 s1, .slice AHd ws1.length cHd] 26 (0, 0))) 1).trans rfl
       have zqKu1 := blk_frozen (blk_alloc Ku.out (.cells #[.int .i64 s1, .slice AHd ws1.length cHd] 26 (0, 0))) 1
       have qKv0 := (blk_cell (blk_alloc Kv.out (.cells #[.int .i64 s1, .slice AHd ws1.length cHd] 26 (0, 0))) 0).trans rfl
       have zqKv0 := blk_frozen (blk_alloc Kv.out (.cells #[.int .i64 s1, .slice AHd ws1.length cHd] 26 (0, 0))) 0
       have qKv1 := (blk_cell (blk_alloc Kv.out (.cells #[.int .i64 s1, .slice AHd ws1.length cHd] 26 (0, 0))) 1).trans rfl
       have zqKv1 := blk_frozen (blk_alloc Kv.out (.cells #[.int .i64 s1, .slice AHd ws1.length cHd] 26 (0, 0))) 1
       clear hb ho)
    | ((with_reducible refine gate_callee (f := 43) rfl ?_)
       refine goesL_ (some 41) rfl rfl Try.func43 (by kernel_rfl) rfl #[.agg #[.int .i64 n0, .slice (some ⟨gu, 0, none⟩) l0.length capu], .agg #[.int .i64 n1, .slice (some ⟨gv, 0, none⟩) l1.length capv]] rfl (by (try simp only [List.map_toArray, List.map_cons, List.map_nil]); first | done | rfl) ?_
       (with_reducible refine (bitset_Differ.calls k n0 _ _ l0 n1 _ _ l1 s2 ws2 e2 _ ?s1a ?s1b ?s2a ?s2b HD.out).mono ?_)
       (case s1a => exact (wmarked_reads (by (with_reducible repeat (first | apply Kd.R_alloc | apply Kd.R_drewN | apply Kd.R_drew)); exact HTu.out)))
       (case s1b => exact (wmarked_fits HTu.out))
       (case s2a => exact (wmarked_reads (by (with_reducible repeat (first | apply Kd.R_alloc | apply Kd.R_drewN | apply Kd.R_drew)); exact HTv.out)))
       (case s2b => exact (wmarked_fits HTv.out))
       rintro e w10 ⟨vg, rfl, ho, hb⟩
       obtain ⟨AHg, cHg, eHg⟩ := Kd.R_slice ho
       subst eHg
       refine ⟨_, rfl, ?_⟩
       have n0_ : Aside0 (Below w.heap.size w w10) := ⟨below_step (by repeat (first | (with_reducible first | exact HB.out | apply below_alloc | apply pw_below_drewN | apply below_drew1) | exact HB.out)) hb⟩
       have n1_ : Aside0 (Kd.C (Kd.int .u64) w10 A0 l0.length l0) := ⟨Kd.C_below (by repeat (first | exact HC.out | (with_reducible refine Kd.C_alloc ?_ _) | (with_reducible refine Kd.C_drewN ?_ _) | (with_reducible refine Kd.C_drew ?_))) hb⟩
       have n2_ : Aside0 (Kd.C (Kd.int .u64) w10 A1 l1.length l1) := ⟨Kd.C_below (by repeat (first | exact HC2.out | (with_reducible refine Kd.C_alloc ?_ _) | (with_reducible refine Kd.C_drewN ?_ _) | (with_reducible refine Kd.C_drew ?_))) hb⟩
       have n3_ : Aside0 (w10.heap[gb101]? = some (.cells #[.int .i64 n0, .slice A0 l0.length c0] 26 (0, 0))) := ⟨blk_below (by (with_reducible repeat (first | refine blk_drewN ?_ _ | refine blk_drew ?_ | refine blk_alloc ?_ _)); exact BK101.out) hb⟩
       have n4_ : Aside0 (w10.heap[gb102]? = some (.cells #[.int .i64 n1, .slice A1 l1.length c1] 26 (0, 0))) := ⟨blk_below (by (with_reducible repeat (first | refine blk_drewN ?_ _ | refine blk_drew ?_ | refine blk_alloc ?_ _)); exact BK102.out) hb⟩
       have n5_ : Aside0 (Kd.R (Kd.int .u64) 82 w10 w5.heap.size (fun _ => True) (.slice (some ⟨gu, 0, none⟩) (l0 ++ [theMark]).length capu) (l0 ++ [theMark])) := ⟨Kd.R_below (by (with_reducible repeat (first | apply Kd.R_alloc | apply Kd.R_drewN | apply Kd.R_drew)); exact HTu.out) hb⟩
       have n6_ : Aside0 (w10.heap[w6.heap.size]? = some (.cells #[.int .i64 n0, .slice (some ⟨gu, 0, none⟩) l0.length capu] 26 (0, 0))) := ⟨blk_below (by (with_reducible repeat (first | refine blk_drewN ?_ _ | refine blk_drew ?_ | refine blk_alloc ?_ _)); exact Ku.out) hb⟩
       have n7_ : Aside0 (Kd.R (Kd.int .u64) 82 w10 (w6.alloc (.cells #[.int .i64 n0, .slice (some ⟨gu, 0, none⟩) l0.length capu] 26 (0, 0))).heap.size (fun _ => True) (.slice (some ⟨gv, 0, none⟩) (l1 ++ [theMark]).length capv) (l1 ++ [theMark])) := ⟨Kd.R_below (by (with_reducible repeat (first | apply Kd.R_alloc | apply Kd.R_drewN | apply Kd.R_drew)); exact HTv.out) hb⟩
       have n8_ : Aside0 (w10.heap[w7.heap.size]? = some (.cells #[.int .i64 n1, .slice (some ⟨gv, 0, none⟩) l1.length capv] 26 (0, 0))) := ⟨blk_below (by (with_reducible repeat (first | refine blk_drewN ?_ _ | refine blk_drew ?_ | refine blk_alloc ?_ _)); exact Kv.out) hb⟩
       have n9_ : Aside0 (Kd.R (Kd.int .u64) 82 w10 (w7.alloc (.cells #[.int .i64 n1, .slice (some ⟨gv, 0, none⟩) l1.length capv] 26 (0, 0))).heap.size (fun _ => True) (.slice AHc ws1.length cHc) ws1) := ⟨Kd.R_below (by (with_reducible repeat (first | apply Kd.R_alloc | apply Kd.R_drewN | apply Kd.R_drew)); exact Hc.out) hb⟩
       have n10_ : Aside0 (w10.heap[w8.heap.size]? = some (.cells #[.int .i64 s1, .slice AHc ws1.length cHc] 26 (0, 0))) := ⟨blk_below (by (with_reducible repeat (first | refine blk_drewN ?_ _ | refine blk_drew ?_ | refine blk_alloc ?_ _)); exact Kc.out) hb⟩
       have n11_ : Aside0 (Kd.R (Kd.int .u64) 82 w10 (w8.alloc (.cells #[.int .i64 s1, .slice AHc ws1.length cHc] 26 (0, 0))).heap.size (fun _ => True) (.slice AHd ws1.length cHd) ws1) := ⟨Kd.R_below (by (with_reducible repeat (first | apply Kd.R_alloc | apply Kd.R_drewN | apply Kd.R_drew)); exact Hd.out) hb⟩
       have n12_ : Aside0 (w10.heap[w9.heap.size]? = some (.cells #[.int .i64 s1, .slice AHd ws1.length cHd] 26 (0, 0))) := ⟨blk_below (by (with_reducible repeat (first | exact blk_new _ _ | refine blk_drewN ?_ _ | refine blk_drew ?_ | refine blk_alloc ?_ _))) hb⟩
       clear HB HC HC2 BK101 BK102 HTu Ku HTv Kv Hc Kc Hd
       have HB := n0_
       have HC := n1_
       have HC2 := n2_
       have BK101 := n3_
       have BK102 := n4_
       have HTu := n5_
       have Ku := n6_
       have HTv := n7_
       have Kv := n8_
       have Hc := n9_
       have Kc := n10_
       have Hd := n11_
       have Kd_ := n12_
       clear n0_ n1_ n2_ n3_ n4_ n5_ n6_ n7_ n8_ n9_ n10_ n11_ n12_
       have Hg : Aside0 (Kd.R (Kd.int .u64) 82 w10 (w9.alloc (.cells #[.int .i64 s1, .slice AHd ws1.length cHd] 26 (0, 0))).heap.size (fun _ => True) (.slice AHg ws2.length cHg) ws2) := ⟨ho⟩
       clear qKu0 zqKu0 qKu1 zqKu1 qKv0 zqKv0 qKv1 zqKv1
       have qBK1010 := (blk_cell (blk_alloc BK101.out (.cells #[.int .i64 s2, .slice AHg ws2.length cHg] 26 (0, 0))) 0).trans rfl
       have zqBK1010 := blk_frozen (blk_alloc BK101.out (.cells #[.int .i64 s2, .slice AHg ws2.length cHg] 26 (0, 0))) 0
       have qBK1011 := (blk_cell (blk_alloc BK101.out (.cells #[.int .i64 s2, .slice AHg ws2.length cHg] 26 (0, 0))) 1).trans rfl
       have zqBK1011 := blk_frozen (blk_alloc BK101.out (.cells #[.int .i64 s2, .slice AHg ws2.length cHg] 26 (0, 0))) 1
       have qBK1020 := (blk_cell (blk_alloc BK102.out (.cells #[.int .i64 s2, .slice AHg ws2.length cHg] 26 (0, 0))) 0).trans rfl
       have zqBK1020 := blk_frozen (blk_alloc BK102.out (.cells #[.int .i64 s2, .slice AHg ws2.length cHg] 26 (0, 0))) 0
       have qBK1021 := (blk_cell (blk_alloc BK102.out (.cells #[.int .i64 s2, .slice AHg ws2.length cHg] 26 (0, 0))) 1).trans rfl
       have zqBK1021 := blk_frozen (blk_alloc BK102.out (.cells #[.int .i64 s2, .slice AHg ws2.length cHg] 26 (0, 0))) 1
       clear hb ho)
    | ((with_reducible refine gate_callee (f := 42) rfl ?_)
       refine goesL_ (some 47) rfl rfl Try.func42 (by kernel_rfl) rfl #[.agg #[.int .i64 n0, .slice A0 l0.length c0], .agg #[.int .i64 n1, .slice A1 l1.length c1], .bool true] rfl (by (try simp only [List.map_toArray, List.map_cons, List.map_nil]); first | done | rfl) ?_
       (with_reducible refine (sloperef3_Minus.calls k n0 _ _ l0 n1 _ _ l1 true s2 ws2 e2 _ ?s1a ?s1b ?s2a ?s2b HD2.out).mono ?_)
       (case s1a => exact (by repeat (first | exact HC.out | (with_reducible refine Kd.C_alloc ?_ _) | (with_reducible refine Kd.C_drewN ?_ _) | (with_reducible refine Kd.C_drew ?_))))
       (case s1b => exact (hc_HC))
       (case s2a => exact (by repeat (first | exact HC2.out | (with_reducible refine Kd.C_alloc ?_ _) | (with_reducible refine Kd.C_drewN ?_ _) | (with_reducible refine Kd.C_drew ?_))))
       (case s2b => exact (hc_HC2))
       rintro e w11 ⟨vi, rfl, ho, hb⟩
       obtain ⟨AHi, cHi, eHi⟩ := Kd.R_slice ho
       subst eHi
       refine ⟨_, rfl, ?_⟩
       have n0_ : Aside0 (Below w.heap.size w w11) := ⟨below_step (by repeat (first | (with_reducible first | exact HB.out | apply below_alloc | apply pw_below_drewN | apply below_drew1) | exact HB.out)) hb⟩
       have n1_ : Aside0 (Kd.C (Kd.int .u64) w11 A0 l0.length l0) := ⟨Kd.C_below (by repeat (first | exact HC.out | (with_reducible refine Kd.C_alloc ?_ _) | (with_reducible refine Kd.C_drewN ?_ _) | (with_reducible refine Kd.C_drew ?_))) hb⟩
       have n2_ : Aside0 (Kd.C (Kd.int .u64) w11 A1 l1.length l1) := ⟨Kd.C_below (by repeat (first | exact HC2.out | (with_reducible refine Kd.C_alloc ?_ _) | (with_reducible refine Kd.C_drewN ?_ _) | (with_reducible refine Kd.C_drew ?_))) hb⟩
       have n3_ : Aside0 (w11.heap[gb101]? = some (.cells #[.int .i64 n0, .slice A0 l0.length c0] 26 (0, 0))) := ⟨blk_below (by (with_reducible repeat (first | refine blk_drewN ?_ _ | refine blk_drew ?_ | refine blk_alloc ?_ _)); exact BK101.out) hb⟩
       have n4_ : Aside0 (w11.heap[gb102]? = some (.cells #[.int .i64 n1, .slice A1 l1.length c1] 26 (0, 0))) := ⟨blk_below (by (with_reducible repeat (first | refine blk_drewN ?_ _ | refine blk_drew ?_ | refine blk_alloc ?_ _)); exact BK102.out) hb⟩
       have n5_ : Aside0 (Kd.R (Kd.int .u64) 82 w11 w5.heap.size (fun _ => True) (.slice (some ⟨gu, 0, none⟩) (l0 ++ [theMark]).length capu) (l0 ++ [theMark])) := ⟨Kd.R_below (by (with_reducible repeat (first | apply Kd.R_alloc | apply Kd.R_drewN | apply Kd.R_drew)); exact HTu.out) hb⟩
       have n6_ : Aside0 (w11.heap[w6.heap.size]? = some (.cells #[.int .i64 n0, .slice (some ⟨gu, 0, none⟩) l0.length capu] 26 (0, 0))) := ⟨blk_below (by (with_reducible repeat (first | refine blk_drewN ?_ _ | refine blk_drew ?_ | refine blk_alloc ?_ _)); exact Ku.out) hb⟩
       have n7_ : Aside0 (Kd.R (Kd.int .u64) 82 w11 (w6.alloc (.cells #[.int .i64 n0, .slice (some ⟨gu, 0, none⟩) l0.length capu] 26 (0, 0))).heap.size (fun _ => True) (.slice (some ⟨gv, 0, none⟩) (l1 ++ [theMark]).length capv) (l1 ++ [theMark])) := ⟨Kd.R_below (by (with_reducible repeat (first | apply Kd.R_alloc | apply Kd.R_drewN | apply Kd.R_drew)); exact HTv.out) hb⟩
       have n8_ : Aside0 (w11.heap[w7.heap.size]? = some (.cells #[.int .i64 n1, .slice (some ⟨gv, 0, none⟩) l1.length capv] 26 (0, 0))) := ⟨blk_below (by (with_reducible repeat (first | refine blk_drewN ?_ _ | refine blk_drew ?_ | refine blk_alloc ?_ _)); exact Kv.out) hb⟩
       have n9_ : Aside0 (Kd.R (Kd.int .u64) 82 w11 (w7.alloc (.cells #[.int .i64 n1, .slice (some ⟨gv, 0, none⟩) l1.length capv] 26 (0, 0))).heap.size (fun _ => True) (.slice AHc ws1.length cHc) ws1) := ⟨Kd.R_below (by (with_reducible repeat (first | apply Kd.R_alloc | apply Kd.R_drewN | apply Kd.R_drew)); exact Hc.out) hb⟩
       have n10_ : Aside0 (w11.heap[w8.heap.size]? = some (.cells #[.int .i64 s1, .slice AHc ws1.length cHc] 26 (0, 0))) := ⟨blk_below (by (with_reducible repeat (first | refine blk_drewN ?_ _ | refine blk_drew ?_ | refine blk_alloc ?_ _)); exact Kc.out) hb⟩
       have n11_ : Aside0 (Kd.R (Kd.int .u64) 82 w11 (w8.alloc (.cells #[.int .i64 s1, .slice AHc ws1.length cHc] 26 (0, 0))).heap.size (fun _ => True) (.slice AHd ws1.length cHd) ws1) := ⟨Kd.R_below (by (with_reducible repeat (first | apply Kd.R_alloc | apply Kd.R_drewN | apply Kd.R_drew)); exact Hd.out) hb⟩
       have n12_ : Aside0 (w11.heap[w9.heap.size]? = some (.cells #[.int .i64 s1, .slice AHd ws1.length cHd] 26 (0, 0))) := ⟨blk_below (by (with_reducible repeat (first | refine blk_drewN ?_ _ | refine blk_drew ?_ | refine blk_alloc ?_ _)); exact Kd_.out) hb⟩
       have n13_ : Aside0 (Kd.R (Kd.int .u64) 82 w11 (w9.alloc (.cells #[.int .i64 s1, .slice AHd ws1.length cHd] 26 (0, 0))).heap.size (fun _ => True) (.slice AHg ws2.length cHg) ws2) := ⟨Kd.R_below (by (with_reducible repeat (first | apply Kd.R_alloc | apply Kd.R_drewN | apply Kd.R_drew)); exact Hg.out) hb⟩
       have n14_ : Aside0 (w11.heap[w10.heap.size]? = some (.cells #[.int .i64 s2, .slice AHg ws2.length cHg] 26 (0, 0))) := ⟨blk_below (by (with_reducible repeat (first | exact blk_new _ _ | refine blk_drewN ?_ _ | refine blk_drew ?_ | refine blk_alloc ?_ _))) hb⟩
       clear HB HC HC2 BK101 BK102 HTu Ku HTv Kv Hc Kc Hd Kd_ Hg
       have HB := n0_
       have HC := n1_
       have HC2 := n2_
       have BK101 := n3_
       have BK102 := n4_
       have HTu := n5_
       have Ku := n6_
       have HTv := n7_
       have Kv := n8_
       have Hc := n9_
       have Kc := n10_
       have Hd := n11_
       have Kd_ := n12_
       have Hg := n13_
       have Kg := n14_
       clear n0_ n1_ n2_ n3_ n4_ n5_ n6_ n7_ n8_ n9_ n10_ n11_ n12_ n13_ n14_
       have Hi : Aside0 (Kd.R (Kd.int .u64) 82 w11 (w10.alloc (.cells #[.int .i64 s2, .slice AHg ws2.length cHg] 26 (0, 0))).heap.size (fun _ => True) (.slice AHi ws2.length cHi) ws2) := ⟨ho⟩
       clear qBK1010 zqBK1010 qBK1011 zqBK1011 qBK1020 zqBK1020 qBK1021 zqBK1021
       have qKu0 := (blk_cell (blk_alloc Ku.out (.cells #[.int .i64 s2, .slice AHi ws2.length cHi] 26 (0, 0))) 0).trans rfl
       have zqKu0 := blk_frozen (blk_alloc Ku.out (.cells #[.int .i64 s2, .slice AHi ws2.length cHi] 26 (0, 0))) 0
       have qKu1 := (blk_cell (blk_alloc Ku.out (.cells #[.int .i64 s2, .slice AHi ws2.length cHi] 26 (0, 0))) 1).trans rfl
       have zqKu1 := blk_frozen (blk_alloc Ku.out (.cells #[.int .i64 s2, .slice AHi ws2.length cHi] 26 (0, 0))) 1
       clear hb ho)
    | ((with_reducible refine gate_callee (f := 44) rfl ?_)
       refine goesL_ (some 52) rfl rfl Try.func44 (by kernel_rfl) rfl #[.agg #[.int .i64 n0, .slice (some ⟨gu, 0, none⟩) l0.length capu]] rfl (by (try simp only [List.map_toArray, List.map_cons, List.map_nil]); first | done | rfl) ?_
       (with_reducible refine (bitset_Rest.calls k n0 _ _ l0 s3 ws3 e3 _ ?s1a ?s1b HR.out).mono ?_)
       (case s1a => exact (wmarked_reads (by (with_reducible repeat (first | apply Kd.R_alloc | apply Kd.R_drewN | apply Kd.R_drew)); exact HTu.out)))
       (case s1b => exact (wmarked_fits HTu.out))
       rintro e w12 ⟨vk, rfl, ho, hb⟩
       obtain ⟨AHk, cHk, eHk⟩ := Kd.R_slice ho
       subst eHk
       refine ⟨_, rfl, ?_⟩
       have n0_ : Aside0 (Below w.heap.size w w12) := ⟨below_step (by repeat (first | (with_reducible first | exact HB.out | apply below_alloc | apply pw_below_drewN | apply below_drew1) | exact HB.out)) hb⟩
       have n1_ : Aside0 (Kd.C (Kd.int .u64) w12 A0 l0.length l0) := ⟨Kd.C_below (by repeat (first | exact HC.out | (with_reducible refine Kd.C_alloc ?_ _) | (with_reducible refine Kd.C_drewN ?_ _) | (with_reducible refine Kd.C_drew ?_))) hb⟩
       have n2_ : Aside0 (Kd.C (Kd.int .u64) w12 A1 l1.length l1) := ⟨Kd.C_below (by repeat (first | exact HC2.out | (with_reducible refine Kd.C_alloc ?_ _) | (with_reducible refine Kd.C_drewN ?_ _) | (with_reducible refine Kd.C_drew ?_))) hb⟩
       have n3_ : Aside0 (w12.heap[gb101]? = some (.cells #[.int .i64 n0, .slice A0 l0.length c0] 26 (0, 0))) := ⟨blk_below (by (with_reducible repeat (first | refine blk_drewN ?_ _ | refine blk_drew ?_ | refine blk_alloc ?_ _)); exact BK101.out) hb⟩
       have n4_ : Aside0 (w12.heap[gb102]? = some (.cells #[.int .i64 n1, .slice A1 l1.length c1] 26 (0, 0))) := ⟨blk_below (by (with_reducible repeat (first | refine blk_drewN ?_ _ | refine blk_drew ?_ | refine blk_alloc ?_ _)); exact BK102.out) hb⟩
       have n5_ : Aside0 (Kd.R (Kd.int .u64) 82 w12 w5.heap.size (fun _ => True) (.slice (some ⟨gu, 0, none⟩) (l0 ++ [theMark]).length capu) (l0 ++ [theMark])) := ⟨Kd.R_below (by (with_reducible repeat (first | apply Kd.R_alloc | apply Kd.R_drewN | apply Kd.R_drew)); exact HTu.out) hb⟩
       have n6_ : Aside0 (w12.heap[w6.heap.size]? = some (.cells #[.int .i64 n0, .slice (some ⟨gu, 0, none⟩) l0.length capu] 26 (0, 0))) := ⟨blk_below (by (with_reducible repeat (first | refine blk_drewN ?_ _ | refine blk_drew ?_ | refine blk_alloc ?_ _)); exact Ku.out) hb⟩
       have n7_ : Aside0 (Kd.R (Kd.int .u64) 82 w12 (w6.alloc (.cells #[.int .i64 n0, .slice (some ⟨gu, 0, none⟩) l0.length capu] 26 (0, 0))).heap.size (fun _ => True) (.slice (some ⟨gv, 0, none⟩) (l1 ++ [theMark]).length capv) (l1 ++ [theMark])) := ⟨Kd.R_below (by (with_reducible repeat (first | apply Kd.R_alloc | apply Kd.R_drewN | apply Kd.R_drew)); exact HTv.out) hb⟩
       have n8_ : Aside0 (w12.heap[w7.heap.size]? = some (.cells #[.int .i64 n1, .slice (some ⟨gv, 0, none⟩) l1.length capv] 26 (0, 0))) := ⟨blk_below (by (with_reducible repeat (first | refine blk_drewN ?_ _ | refine blk_drew ?_ | refine blk_alloc ?_ _)); exact Kv.out) hb⟩
       have n9_ : Aside0 (Kd.R (Kd.int .u64) 82 w12 (w7.alloc (.cells #[.int .i64 n1, .slice (some ⟨gv, 0, none⟩) l1.length capv] 26 (0, 0))).heap.size (fun _ => True) (.slice AHc ws1.length cHc) ws1) := ⟨Kd.R_below (by (with_reducible repeat (first | apply Kd.R_alloc | apply Kd.R_drewN | apply Kd.R_drew)); exact Hc.out) hb⟩
       have n10_ : Aside0 (w12.heap[w8.heap.size]? = some (.cells #[.int .i64 s1, .slice AHc ws1.length cHc] 26 (0, 0))) := ⟨blk_below (by (with_reducible repeat (first | refine blk_drewN ?_ _ | refine blk_drew ?_ | refine blk_alloc ?_ _)); exact Kc.out) hb⟩
       have n11_ : Aside0 (Kd.R (Kd.int .u64) 82 w12 (w8.alloc (.cells #[.int .i64 s1, .slice AHc ws1.length cHc] 26 (0, 0))).heap.size (fun _ => True) (.slice AHd ws1.length cHd) ws1) := ⟨Kd.R_below (by (with_reducible repeat (first | apply Kd.R_alloc | apply Kd.R_drewN | apply Kd.R_drew)); exact Hd.out) hb⟩
       have n12_ : Aside0 (w12.heap[w9.heap.size]? = some (.cells #[.int .i64 s1, .slice AHd ws1.length cHd] 26 (0, 0))) := ⟨blk_below (by (with_reducible repeat (first | refine blk_drewN ?_ _ | refine blk_drew ?_ | refine blk_alloc ?_ _)); exact Kd_.out) hb⟩
       have n13_ : Aside0 (Kd.R (Kd.int .u64) 82 w12 (w9.alloc (.cells #[.int .i64 s1, .slice AHd ws1.length cHd] 26 (0, 0))).heap.size (fun _ => True) (.slice AHg ws2.length cHg) ws2) := ⟨Kd.R_below (by (with_reducible repeat (first | apply Kd.R_alloc | apply Kd.R_drewN | apply Kd.R_drew)); exact Hg.out) hb⟩
       have n14_ : Aside0 (w12.heap[w10.heap.size]? = some (.cells #[.int .i64 s2, .slice AHg ws2.length cHg] 26 (0, 0))) := ⟨blk_below (by (with_reducible repeat (first | refine blk_drewN ?_ _ | refine blk_drew ?_ | refine blk_alloc ?_ _)); exact Kg.out) hb⟩
       have n15_ : Aside0 (Kd.R (Kd.int .u64) 82 w12 (w10.alloc (.cells #[.int .i64 s2, .slice AHg ws2.length cHg] 26 (0, 0))).heap.size (fun _ => True) (.slice AHi ws2.length cHi) ws2) := ⟨Kd.R_below (by (with_reducible repeat (first | apply Kd.R_alloc | apply Kd.R_drewN | apply Kd.R_drew)); exact Hi.out) hb⟩
       have n16_ : Aside0 (w12.heap[w11.heap.size]? = some (.cells #[.int .i64 s2, .slice AHi ws2.length cHi] 26 (0, 0))) := ⟨blk_below (by (with_reducible repeat (first | exact blk_new _ _ | refine blk_drewN ?_ _ | refine blk_drew ?_ | refine blk_alloc ?_ _))) hb⟩
       clear HB HC HC2 BK101 BK102 HTu Ku HTv Kv Hc Kc Hd Kd_ Hg Kg Hi
       have HB := n0_
       have HC := n1_
       have HC2 := n2_
       have BK101 := n3_
       have BK102 := n4_
       have HTu := n5_
       have Ku := n6_
       have HTv := n7_
       have Kv := n8_
       have Hc := n9_
       have Kc := n10_
       have Hd := n11_
       have Kd_ := n12_
       have Hg := n13_
       have Kg := n14_
       have Hi := n15_
       have Ki := n16_
       clear n0_ n1_ n2_ n3_ n4_ n5_ n6_ n7_ n8_ n9_ n10_ n11_ n12_ n13_ n14_ n15_ n16_
       have Hk : Aside0 (Kd.R (Kd.int .u64) 82 w12 (w11.alloc (.cells #[.int .i64 s2, .slice AHi ws2.length cHi] 26 (0, 0))).heap.size (fun _ => True) (.slice AHk ws3.length cHk) ws3) := ⟨ho⟩
       clear qKu0 zqKu0 qKu1 zqKu1
       have qBK1010 := (blk_cell (blk_alloc BK101.out (.cells #[.int .i64 s3, .slice AHk ws3.length cHk] 26 (0, 0))) 0).trans rfl
       have zqBK1010 := blk_frozen (blk_alloc BK101.out (.cells #[.int .i64 s3, .slice AHk ws3.length cHk] 26 (0, 0))) 0
       have qBK1011 := (blk_cell (blk_alloc BK101.out (.cells #[.int .i64 s3, .slice AHk ws3.length cHk] 26 (0, 0))) 1).trans rfl
       have zqBK1011 := blk_frozen (blk_alloc BK101.out (.cells #[.int .i64 s3, .slice AHk ws3.length cHk] 26 (0, 0))) 1
       clear hb ho)
    | ((with_reducible refine gate_callee (f := 45) rfl ?_)
       refine goesL_ (some 57) rfl rfl Try.func45 (by kernel_rfl) rfl #[.agg #[.int .i64 n0, .slice A0 l0.length c0]] rfl (by (try simp only [List.map_toArray, List.map_cons, List.map_nil]); first | done | rfl) ?_
       (with_reducible refine (sloperef3_Rest.calls k n0 _ _ l0 s3 ws3 e3 _ ?s1a ?s1b HR2.out).mono ?_)
       (case s1a => exact (by repeat (first | exact HC.out | (with_reducible refine Kd.C_alloc ?_ _) | (with_reducible refine Kd.C_drewN ?_ _) | (with_reducible refine Kd.C_drew ?_))))
       (case s1b => exact (hc_HC))
       rintro e w13 ⟨vm, rfl, ho, hb⟩
       obtain ⟨AHm, cHm, eHm⟩ := Kd.R_slice ho
       subst eHm
       refine ⟨_, rfl, ?_⟩
       have n0_ : Aside0 (Below w.heap.size w w13) := ⟨below_step (by repeat (first | (with_reducible first | exact HB.out | apply below_alloc | apply pw_below_drewN | apply below_drew1) | exact HB.out)) hb⟩
       have n1_ : Aside0 (Kd.C (Kd.int .u64) w13 A0 l0.length l0) := ⟨Kd.C_below (by repeat (first | exact HC.out | (with_reducible refine Kd.C_alloc ?_ _) | (with_reducible refine Kd.C_drewN ?_ _) | (with_reducible refine Kd.C_drew ?_))) hb⟩
       have n2_ : Aside0 (Kd.C (Kd.int .u64) w13 A1 l1.length l1) := ⟨Kd.C_below (by repeat (first | exact HC2.out | (with_reducible refine Kd.C_alloc ?_ _) | (with_reducible refine Kd.C_drewN ?_ _) | (with_reducible refine Kd.C_drew ?_))) hb⟩
       have n3_ : Aside0 (w13.heap[gb101]? = some (.cells #[.int .i64 n0, .slice A0 l0.length c0] 26 (0, 0))) := ⟨blk_below (by (with_reducible repeat (first | refine blk_drewN ?_ _ | refine blk_drew ?_ | refine blk_alloc ?_ _)); exact BK101.out) hb⟩
       have n4_ : Aside0 (w13.heap[gb102]? = some (.cells #[.int .i64 n1, .slice A1 l1.length c1] 26 (0, 0))) := ⟨blk_below (by (with_reducible repeat (first | refine blk_drewN ?_ _ | refine blk_drew ?_ | refine blk_alloc ?_ _)); exact BK102.out) hb⟩
       have n5_ : Aside0 (Kd.R (Kd.int .u64) 82 w13 w5.heap.size (fun _ => True) (.slice (some ⟨gu, 0, none⟩) (l0 ++ [theMark]).length capu) (l0 ++ [theMark])) := ⟨Kd.R_below (by (with_reducible repeat (first | apply Kd.R_alloc | apply Kd.R_drewN | apply Kd.R_drew)); exact HTu.out) hb⟩
       have n6_ : Aside0 (w13.heap[w6.heap.size]? = some (.cells #[.int .i64 n0, .slice (some ⟨gu, 0, none⟩) l0.length capu] 26 (0, 0))) := ⟨blk_below (by (with_reducible repeat (first | refine blk_drewN ?_ _ | refine blk_drew ?_ | refine blk_alloc ?_ _)); exact Ku.out) hb⟩
       have n7_ : Aside0 (Kd.R (Kd.int .u64) 82 w13 (w6.alloc (.cells #[.int .i64 n0, .slice (some ⟨gu, 0, none⟩) l0.length capu] 26 (0, 0))).heap.size (fun _ => True) (.slice (some ⟨gv, 0, none⟩) (l1 ++ [theMark]).length capv) (l1 ++ [theMark])) := ⟨Kd.R_below (by (with_reducible repeat (first | apply Kd.R_alloc | apply Kd.R_drewN | apply Kd.R_drew)); exact HTv.out) hb⟩
       have n8_ : Aside0 (w13.heap[w7.heap.size]? = some (.cells #[.int .i64 n1, .slice (some ⟨gv, 0, none⟩) l1.length capv] 26 (0, 0))) := ⟨blk_below (by (with_reducible repeat (first | refine blk_drewN ?_ _ | refine blk_drew ?_ | refine blk_alloc ?_ _)); exact Kv.out) hb⟩
       have n9_ : Aside0 (Kd.R (Kd.int .u64) 82 w13 (w7.alloc (.cells #[.int .i64 n1, .slice (some ⟨gv, 0, none⟩) l1.length capv] 26 (0, 0))).heap.size (fun _ => True) (.slice AHc ws1.length cHc) ws1) := ⟨Kd.R_below (by (with_reducible repeat (first | apply Kd.R_alloc | apply Kd.R_drewN | apply Kd.R_drew)); exact Hc.out) hb⟩
       have n10_ : Aside0 (w13.heap[w8.heap.size]? = some (.cells #[.int .i64 s1, .slice AHc ws1.length cHc] 26 (0, 0))) := ⟨blk_below (by (with_reducible repeat (first | refine blk_drewN ?_ _ | refine blk_drew ?_ | refine blk_alloc ?_ _)); exact Kc.out) hb⟩
       have n11_ : Aside0 (Kd.R (Kd.int .u64) 82 w13 (w8.alloc (.cells #[.int .i64 s1, .slice AHc ws1.length cHc] 26 (0, 0))).heap.size (fun _ => True) (.slice AHd ws1.length cHd) ws1) := ⟨Kd.R_below (by (with_reducible repeat (first | apply Kd.R_alloc | apply Kd.R_drewN | apply Kd.R_drew)); exact Hd.out) hb⟩
       have n12_ : Aside0 (w13.heap[w9.heap.size]? = some (.cells #[.int .i64 s1, .slice AHd ws1.length cHd] 26 (0, 0))) := ⟨blk_below (by (with_reducible repeat (first | refine blk_drewN ?_ _ | refine blk_drew ?_ | refine blk_alloc ?_ _)); exact Kd_.out) hb⟩
       have n13_ : Aside0 (Kd.R (Kd.int .u64) 82 w13 (w9.alloc (.cells #[.int .i64 s1, .slice AHd ws1.length cHd] 26 (0, 0))).heap.size (fun _ => True) (.slice AHg ws2.length cHg) ws2) := ⟨Kd.R_below (by (with_reducible repeat (first | apply Kd.R_alloc | apply Kd.R_drewN | apply Kd.R_drew)); exact Hg.out) hb⟩
       have n14_ : Aside0 (w13.heap[w10.heap.size]? = some (.cells #[.int .i64 s2, .slice AHg ws2.length cHg] 26 (0, 0))) := ⟨blk_below (by (with_reducible repeat (first | refine blk_drewN ?_ _ | refine blk_drew ?_ | refine blk_alloc ?_ _)); exact Kg.out) hb⟩
       have n15_ : Aside0 (Kd.R (Kd.int .u64) 82 w13 (w10.alloc (.cells #[.int .i64 s2, .slice AHg ws2.length cHg] 26 (0, 0))).heap.size (fun _ => True) (.slice AHi ws2.length cHi) ws2) := ⟨Kd.R_below (by (with_reducible repeat (first | apply Kd.R_alloc | apply Kd.R_drewN | apply Kd.R_drew)); exact Hi.out) hb⟩
       have n16_ : Aside0 (w13.heap[w11.heap.size]? = some (.cells #[.int .i64 s2, .slice AHi ws2.length cHi] 26 (0, 0))) := ⟨blk_below (by (with_reducible repeat (first | refine blk_drewN ?_ _ | refine blk_drew ?_ | refine blk_alloc ?_ _)); exact Ki.out) hb⟩
       have n17_ : Aside0 (Kd.R (Kd.int .u64) 82 w13 (w11.alloc (.cells #[.int .i64 s2, .slice AHi ws2.length cHi] 26 (0, 0))).heap.size (fun _ => True) (.slice AHk ws3.length cHk) ws3) := ⟨Kd.R_below (by (with_reducible repeat (first | apply Kd.R_alloc | apply Kd.R_drewN | apply Kd.R_drew)); exact Hk.out) hb⟩
       have n18_ : Aside0 (w13.heap[w12.heap.size]? = some (.cells #[.int .i64 s3, .slice AHk ws3.length cHk] 26 (0, 0))) := ⟨blk_below (by (with_reducible repeat (first | exact blk_new _ _ | refine blk_drewN ?_ _ | refine blk_drew ?_ | refine blk_alloc ?_ _))) hb⟩
       clear HB HC HC2 BK101 BK102 HTu Ku HTv Kv Hc Kc Hd Kd_ Hg Kg Hi Ki Hk
       have HB := n0_
       have HC := n1_
       have HC2 := n2_
       have BK101 := n3_
       have BK102 := n4_
       have HTu := n5_
       have Ku := n6_
       have HTv := n7_
       have Kv := n8_
       have Hc := n9_
       have Kc := n10_
       have Hd := n11_
       have Kd_ := n12_
       have Hg := n13_
       have Kg := n14_
       have Hi := n15_
       have Ki := n16_
       have Hk := n17_
       have Kk := n18_
       clear n0_ n1_ n2_ n3_ n4_ n5_ n6_ n7_ n8_ n9_ n10_ n11_ n12_ n13_ n14_ n15_ n16_ n17_ n18_
       have Hm : Aside0 (Kd.R (Kd.int .u64) 82 w13 (w12.alloc (.cells #[.int .i64 s3, .slice AHk ws3.length cHk] 26 (0, 0))).heap.size (fun _ => True) (.slice AHm ws3.length cHm) ws3) := ⟨ho⟩
       clear qBK1010 zqBK1010 qBK1011 zqBK1011
       have qKc0 := (blk_cell (blk_alloc Kc.out (.cells #[.int .i64 s3, .slice AHm ws3.length cHm] 26 (0, 0))) 0).trans rfl
       have zqKc0 := blk_frozen (blk_alloc Kc.out (.cells #[.int .i64 s3, .slice AHm ws3.length cHm] 26 (0, 0))) 0
       have qKc1 := (blk_cell (blk_alloc Kc.out (.cells #[.int .i64 s3, .slice AHm ws3.length cHm] 26 (0, 0))) 1).trans rfl
       have zqKc1 := blk_frozen (blk_alloc Kc.out (.cells #[.int .i64 s3, .slice AHm ws3.length cHm] 26 (0, 0))) 1
       have qKd_0 := (blk_cell (blk_alloc Kd_.out (.cells #[.int .i64 s3, .slice AHm ws3.length cHm] 26 (0, 0))) 0).trans rfl
       have zqKd_0 := blk_frozen (blk_alloc Kd_.out (.cells #[.int .i64 s3, .slice AHm ws3.length cHm] 26 (0, 0))) 0
       have qKd_1 := (blk_cell (blk_alloc Kd_.out (.cells #[.int .i64 s3, .slice AHm ws3.length cHm] 26 (0, 0))) 1).trans rfl
       have zqKd_1 := blk_frozen (blk_alloc Kd_.out (.cells #[.int .i64 s3, .slice AHm ws3.length cHm] 26 (0, 0))) 1
       clear hb ho)
    | ((with_reducible refine gate_callee (f := 18) rfl ?_)
       refine goesL_ (some 62) rfl rfl Try.func18 (by kernel_rfl) rfl #[.agg #[.int .i64 s1, .slice AHc ws1.length cHc], .agg #[.int .i64 s1, .slice AHd ws1.length cHd]] rfl (by (try simp only [List.map_toArray, List.map_cons, List.map_nil]); first | done | rfl) ?_
       (with_reducible refine (slopelaw3_same.calls k s1 _ _ ws1 s1 _ _ ws1 true _ ?s1a ?s1b ?s2a ?s2b HS.out).mono ?_)
       (case s1a => exact ((Kd.R_reads' (by (with_reducible repeat (first | apply Kd.R_alloc | apply Kd.R_drewN | apply Kd.R_drew)); exact Hc.out)).2.2))
       (case s1b => exact ((Kd.R_reads' Hc.out).2.1))
       (case s2a => exact ((Kd.R_reads' (by (with_reducible repeat (first | apply Kd.R_alloc | apply Kd.R_drewN | apply Kd.R_drew)); exact Hd.out)).2.2))
       (case s2b => exact ((Kd.R_reads' Hd.out).2.1))
       rintro e w14 ⟨rfl, hb⟩
       refine ⟨_, rfl, ?_⟩
       have n0_ : Aside0 (Below w.heap.size w w14) := ⟨below_step (by repeat (first | (with_reducible first | exact HB.out | apply below_alloc | apply pw_below_drewN | apply below_drew1) | exact HB.out)) hb⟩
       have n1_ : Aside0 (Kd.C (Kd.int .u64) w14 A0 l0.length l0) := ⟨Kd.C_below (by repeat (first | exact HC.out | (with_reducible refine Kd.C_alloc ?_ _) | (with_reducible refine Kd.C_drewN ?_ _) | (with_reducible refine Kd.C_drew ?_))) hb⟩
       have n2_ : Aside0 (Kd.C (Kd.int .u64) w14 A1 l1.length l1) := ⟨Kd.C_below (by repeat (first | exact HC2.out | (with_reducible refine Kd.C_alloc ?_ _) | (with_reducible refine Kd.C_drewN ?_ _) | (with_reducible refine Kd.C_drew ?_))) hb⟩
       have n3_ : Aside0 (w14.heap[gb101]? = some (.cells #[.int .i64 n0, .slice A0 l0.length c0] 26 (0, 0))) := ⟨blk_below (by (with_reducible repeat (first | refine blk_drewN ?_ _ | refine blk_drew ?_ | refine blk_alloc ?_ _)); exact BK101.out) hb⟩
       have n4_ : Aside0 (w14.heap[gb102]? = some (.cells #[.int .i64 n1, .slice A1 l1.length c1] 26 (0, 0))) := ⟨blk_below (by (with_reducible repeat (first | refine blk_drewN ?_ _ | refine blk_drew ?_ | refine blk_alloc ?_ _)); exact BK102.out) hb⟩
       have n5_ : Aside0 (Kd.R (Kd.int .u64) 82 w14 w5.heap.size (fun _ => True) (.slice (some ⟨gu, 0, none⟩) (l0 ++ [theMark]).length capu) (l0 ++ [theMark])) := ⟨Kd.R_below (by (with_reducible repeat (first | apply Kd.R_alloc | apply Kd.R_drewN | apply Kd.R_drew)); exact HTu.out) hb⟩
       have n6_ : Aside0 (w14.heap[w6.heap.size]? = some (.cells #[.int .i64 n0, .slice (some ⟨gu, 0, none⟩) l0.length capu] 26 (0, 0))) := ⟨blk_below (by (with_reducible repeat (first | refine blk_drewN ?_ _ | refine blk_drew ?_ | refine blk_alloc ?_ _)); exact Ku.out) hb⟩
       have n7_ : Aside0 (Kd.R (Kd.int .u64) 82 w14 (w6.alloc (.cells #[.int .i64 n0, .slice (some ⟨gu, 0, none⟩) l0.length capu] 26 (0, 0))).heap.size (fun _ => True) (.slice (some ⟨gv, 0, none⟩) (l1 ++ [theMark]).length capv) (l1 ++ [theMark])) := ⟨Kd.R_below (by (with_reducible repeat (first | apply Kd.R_alloc | apply Kd.R_drewN | apply Kd.R_drew)); exact HTv.out) hb⟩
       have n8_ : Aside0 (w14.heap[w7.heap.size]? = some (.cells #[.int .i64 n1, .slice (some ⟨gv, 0, none⟩) l1.length capv] 26 (0, 0))) := ⟨blk_below (by (with_reducible repeat (first | refine blk_drewN ?_ _ | refine blk_drew ?_ | refine blk_alloc ?_ _)); exact Kv.out) hb⟩
       have n9_ : Aside0 (Kd.R (Kd.int .u64) 82 w14 (w7.alloc (.cells #[.int .i64 n1, .slice (some ⟨gv, 0, none⟩) l1.length capv] 26 (0, 0))).heap.size (fun _ => True) (.slice AHc ws1.length cHc) ws1) := ⟨Kd.R_below (by (with_reducible repeat (first | apply Kd.R_alloc | apply Kd.R_drewN | apply Kd.R_drew)); exact Hc.out) hb⟩
       have n10_ : Aside0 (w14.heap[w8.heap.size]? = some (.cells #[.int .i64 s1, .slice AHc ws1.length cHc] 26 (0, 0))) := ⟨blk_below (by (with_reducible repeat (first | refine blk_drewN ?_ _ | refine blk_drew ?_ | refine blk_alloc ?_ _)); exact Kc.out) hb⟩
       have n11_ : Aside0 (Kd.R (Kd.int .u64) 82 w14 (w8.alloc (.cells #[.int .i64 s1, .slice AHc ws1.length cHc] 26 (0, 0))).heap.size (fun _ => True) (.slice AHd ws1.length cHd) ws1) := ⟨Kd.R_below (by (with_reducible repeat (first | apply Kd.R_alloc | apply Kd.R_drewN | apply Kd.R_drew)); exact Hd.out) hb⟩
       have n12_ : Aside0 (w14.heap[w9.heap.size]? = some (.cells #[.int .i64 s1, .slice AHd ws1.length cHd] 26 (0, 0))) := ⟨blk_below (by (with_reducible repeat (first | refine blk_drewN ?_ _ | refine blk_drew ?_ | refine blk_alloc ?_ _)); exact Kd_.out) hb⟩
       have n13_ : Aside0 (Kd.R (Kd.int .u64) 82 w14 (w9.alloc (.cells #[.int .i64 s1, .slice AHd ws1.length cHd] 26 (0, 0))).heap.size (fun _ => True) (.slice AHg ws2.length cHg) ws2) := ⟨Kd.R_below (by (with_reducible repeat (first | apply Kd.R_alloc | apply Kd.R_drewN | apply Kd.R_drew)); exact Hg.out) hb⟩
       have n14_ : Aside0 (w14.heap[w10.heap.size]? = some (.cells #[.int .i64 s2, .slice AHg ws2.length cHg] 26 (0, 0))) := ⟨blk_below (by (with_reducible repeat (first | refine blk_drewN ?_ _ | refine blk_drew ?_ | refine blk_alloc ?_ _)); exact Kg.out) hb⟩
       have n15_ : Aside0 (Kd.R (Kd.int .u64) 82 w14 (w10.alloc (.cells #[.int .i64 s2, .slice AHg ws2.length cHg] 26 (0, 0))).heap.size (fun _ => True) (.slice AHi ws2.length cHi) ws2) := ⟨Kd.R_below (by (with_reducible repeat (first | apply Kd.R_alloc | apply Kd.R_drewN | apply Kd.R_drew)); exact Hi.out) hb⟩
       have n16_ : Aside0 (w14.heap[w11.heap.size]? = some (.cells #[.int .i64 s2, .slice AHi ws2.length cHi] 26 (0, 0))) := ⟨blk_below (by (with_reducible repeat (first | refine blk_drewN ?_ _ | refine blk_drew ?_ | refine blk_alloc ?_ _)); exact Ki.out) hb⟩
       have n17_ : Aside0 (Kd.R (Kd.int .u64) 82 w14 (w11.alloc (.cells #[.int .i64 s2, .slice AHi ws2.length cHi] 26 (0, 0))).heap.size (fun _ => True) (.slice AHk ws3.length cHk) ws3) := ⟨Kd.R_below (by (with_reducible repeat (first | apply Kd.R_alloc | apply Kd.R_drewN | apply Kd.R_drew)); exact Hk.out) hb⟩
       have n18_ : Aside0 (w14.heap[w12.heap.size]? = some (.cells #[.int .i64 s3, .slice AHk ws3.length cHk] 26 (0, 0))) := ⟨blk_below (by (with_reducible repeat (first | refine blk_drewN ?_ _ | refine blk_drew ?_ | refine blk_alloc ?_ _)); exact Kk.out) hb⟩
       have n19_ : Aside0 (Kd.R (Kd.int .u64) 82 w14 (w12.alloc (.cells #[.int .i64 s3, .slice AHk ws3.length cHk] 26 (0, 0))).heap.size (fun _ => True) (.slice AHm ws3.length cHm) ws3) := ⟨Kd.R_below (by (with_reducible repeat (first | apply Kd.R_alloc | apply Kd.R_drewN | apply Kd.R_drew)); exact Hm.out) hb⟩
       have n20_ : Aside0 (w14.heap[w13.heap.size]? = some (.cells #[.int .i64 s3, .slice AHm ws3.length cHm] 26 (0, 0))) := ⟨blk_below (by (with_reducible repeat (first | exact blk_new _ _ | refine blk_drewN ?_ _ | refine blk_drew ?_ | refine blk_alloc ?_ _))) hb⟩
       clear HB HC HC2 BK101 BK102 HTu Ku HTv Kv Hc Kc Hd Kd_ Hg Kg Hi Ki Hk Kk Hm
       have HB := n0_
       have HC := n1_
       have HC2 := n2_
       have BK101 := n3_
       have BK102 := n4_
       have HTu := n5_
       have Ku := n6_
       have HTv := n7_
       have Kv := n8_
       have Hc := n9_
       have Kc := n10_
       have Hd := n11_
       have Kd_ := n12_
       have Hg := n13_
       have Kg := n14_
       have Hi := n15_
       have Ki := n16_
       have Hk := n17_
       have Kk := n18_
       have Hm := n19_
       have Km := n20_
       clear n0_ n1_ n2_ n3_ n4_ n5_ n6_ n7_ n8_ n9_ n10_ n11_ n12_ n13_ n14_ n15_ n16_ n17_ n18_ n19_ n20_
       clear qKc0 zqKc0 qKc1 zqKc1 qKd_0 zqKd_0 qKd_1 zqKd_1
       have qKg0 := (blk_cell Kg.out 0).trans rfl
       have zqKg0 := blk_frozen Kg.out 0
       have qKg1 := (blk_cell Kg.out 1).trans rfl
       have zqKg1 := blk_frozen Kg.out 1
       have qKi0 := (blk_cell Ki.out 0).trans rfl
       have zqKi0 := blk_frozen Ki.out 0
       have qKi1 := (blk_cell Ki.out 1).trans rfl
       have zqKi1 := blk_frozen Ki.out 1
       clear hb)
    | (go_at_call 19
       (with_reducible refine (slopelaw3_num.calls e1 e1 _ rfl).mono ?_)
       rintro e w' ⟨rfl, ⟨nd66, rfl⟩⟩)
    | (go_at_call 18
       (with_reducible refine (slopelaw3_same.calls k s2 _ _ ws2 s2 _ _ ws2 true _ ?s1a ?s1b ?s2a ?s2b HS2.out).mono ?_)
       (case s1a => exact ((Kd.R_reads' (by (with_reducible repeat (first | apply Kd.R_alloc | apply Kd.R_drewN | apply Kd.R_drew)); exact Hg.out)).2.2))
       (case s1b => exact ((Kd.R_reads' Hg.out).2.1))
       (case s2a => exact ((Kd.R_reads' (by (with_reducible repeat (first | apply Kd.R_alloc | apply Kd.R_drewN | apply Kd.R_drew)); exact Hi.out)).2.2))
       (case s2b => exact ((Kd.R_reads' Hi.out).2.1))
       rintro e w15 ⟨rfl, hb⟩
       have n0_ : Aside0 (Below w.heap.size w w15) := ⟨below_step (by repeat (first | (with_reducible first | exact HB.out | apply below_alloc | apply pw_below_drewN | apply below_drew1) | exact HB.out)) hb⟩
       have n1_ : Aside0 (Kd.C (Kd.int .u64) w15 A0 l0.length l0) := ⟨Kd.C_below (by repeat (first | exact HC.out | (with_reducible refine Kd.C_alloc ?_ _) | (with_reducible refine Kd.C_drewN ?_ _) | (with_reducible refine Kd.C_drew ?_))) hb⟩
       have n2_ : Aside0 (Kd.C (Kd.int .u64) w15 A1 l1.length l1) := ⟨Kd.C_below (by repeat (first | exact HC2.out | (with_reducible refine Kd.C_alloc ?_ _) | (with_reducible refine Kd.C_drewN ?_ _) | (with_reducible refine Kd.C_drew ?_))) hb⟩
       have n3_ : Aside0 (w15.heap[gb101]? = some (.cells #[.int .i64 n0, .slice A0 l0.length c0] 26 (0, 0))) := ⟨blk_below (by (with_reducible repeat (first | refine blk_drewN ?_ _ | refine blk_drew ?_ | refine blk_alloc ?_ _)); exact BK101.out) hb⟩
       have n4_ : Aside0 (w15.heap[gb102]? = some (.cells #[.int .i64 n1, .slice A1 l1.length c1] 26 (0, 0))) := ⟨blk_below (by (with_reducible repeat (first | refine blk_drewN ?_ _ | refine blk_drew ?_ | refine blk_alloc ?_ _)); exact BK102.out) hb⟩
       have n5_ : Aside0 (Kd.R (Kd.int .u64) 82 w15 w5.heap.size (fun _ => True) (.slice (some ⟨gu, 0, none⟩) (l0 ++ [theMark]).length capu) (l0 ++ [theMark])) := ⟨Kd.R_below (by (with_reducible repeat (first | apply Kd.R_alloc | apply Kd.R_drewN | apply Kd.R_drew)); exact HTu.out) hb⟩
       have n6_ : Aside0 (w15.heap[w6.heap.size]? = some (.cells #[.int .i64 n0, .slice (some ⟨gu, 0, none⟩) l0.length capu] 26 (0, 0))) := ⟨blk_below (by (with_reducible repeat (first | refine blk_drewN ?_ _ | refine blk_drew ?_ | refine blk_alloc ?_ _)); exact Ku.out) hb⟩
       have n7_ : Aside0 (Kd.R (Kd.int .u64) 82 w15 (w6.alloc (.cells #[.int .i64 n0, .slice (some ⟨gu, 0, none⟩) l0.length capu] 26 (0, 0))).heap.size (fun _ => True) (.slice (some ⟨gv, 0, none⟩) (l1 ++ [theMark]).length capv) (l1 ++ [theMark])) := ⟨Kd.R_below (by (with_reducible repeat (first | apply Kd.R_alloc | apply Kd.R_drewN | apply Kd.R_drew)); exact HTv.out) hb⟩
       have n8_ : Aside0 (w15.heap[w7.heap.size]? = some (.cells #[.int .i64 n1, .slice (some ⟨gv, 0, none⟩) l1.length capv] 26 (0, 0))) := ⟨blk_below (by (with_reducible repeat (first | refine blk_drewN ?_ _ | refine blk_drew ?_ | refine blk_alloc ?_ _)); exact Kv.out) hb⟩
       have n9_ : Aside0 (Kd.R (Kd.int .u64) 82 w15 (w7.alloc (.cells #[.int .i64 n1, .slice (some ⟨gv, 0, none⟩) l1.length capv] 26 (0, 0))).heap.size (fun _ => True) (.slice AHc ws1.length cHc) ws1) := ⟨Kd.R_below (by (with_reducible repeat (first | apply Kd.R_alloc | apply Kd.R_drewN | apply Kd.R_drew)); exact Hc.out) hb⟩
       have n10_ : Aside0 (w15.heap[w8.heap.size]? = some (.cells #[.int .i64 s1, .slice AHc ws1.length cHc] 26 (0, 0))) := ⟨blk_below (by (with_reducible repeat (first | refine blk_drewN ?_ _ | refine blk_drew ?_ | refine blk_alloc ?_ _)); exact Kc.out) hb⟩
       have n11_ : Aside0 (Kd.R (Kd.int .u64) 82 w15 (w8.alloc (.cells #[.int .i64 s1, .slice AHc ws1.length cHc] 26 (0, 0))).heap.size (fun _ => True) (.slice AHd ws1.length cHd) ws1) := ⟨Kd.R_below (by (with_reducible repeat (first | apply Kd.R_alloc | apply Kd.R_drewN | apply Kd.R_drew)); exact Hd.out) hb⟩
       have n12_ : Aside0 (w15.heap[w9.heap.size]? = some (.cells #[.int .i64 s1, .slice AHd ws1.length cHd] 26 (0, 0))) := ⟨blk_below (by (with_reducible repeat (first | refine blk_drewN ?_ _ | refine blk_drew ?_ | refine blk_alloc ?_ _)); exact Kd_.out) hb⟩
       have n13_ : Aside0 (Kd.R (Kd.int .u64) 82 w15 (w9.alloc (.cells #[.int .i64 s1, .slice AHd ws1.length cHd] 26 (0, 0))).heap.size (fun _ => True) (.slice AHg ws2.length cHg) ws2) := ⟨Kd.R_below (by (with_reducible repeat (first | apply Kd.R_alloc | apply Kd.R_drewN | apply Kd.R_drew)); exact Hg.out) hb⟩
       have n14_ : Aside0 (w15.heap[w10.heap.size]? = some (.cells #[.int .i64 s2, .slice AHg ws2.length cHg] 26 (0, 0))) := ⟨blk_below (by (with_reducible repeat (first | refine blk_drewN ?_ _ | refine blk_drew ?_ | refine blk_alloc ?_ _)); exact Kg.out) hb⟩
       have n15_ : Aside0 (Kd.R (Kd.int .u64) 82 w15 (w10.alloc (.cells #[.int .i64 s2, .slice AHg ws2.length cHg] 26 (0, 0))).heap.size (fun _ => True) (.slice AHi ws2.length cHi) ws2) := ⟨Kd.R_below (by (with_reducible repeat (first | apply Kd.R_alloc | apply Kd.R_drewN | apply Kd.R_drew)); exact Hi.out) hb⟩
       have n16_ : Aside0 (w15.heap[w11.heap.size]? = some (.cells #[.int .i64 s2, .slice AHi ws2.length cHi] 26 (0, 0))) := ⟨blk_below (by (with_reducible repeat (first | refine blk_drewN ?_ _ | refine blk_drew ?_ | refine blk_alloc ?_ _)); exact Ki.out) hb⟩
       have n17_ : Aside0 (Kd.R (Kd.int .u64) 82 w15 (w11.alloc (.cells #[.int .i64 s2, .slice AHi ws2.length cHi] 26 (0, 0))).heap.size (fun _ => True) (.slice AHk ws3.length cHk) ws3) := ⟨Kd.R_below (by (with_reducible repeat (first | apply Kd.R_alloc | apply Kd.R_drewN | apply Kd.R_drew)); exact Hk.out) hb⟩
       have n18_ : Aside0 (w15.heap[w12.heap.size]? = some (.cells #[.int .i64 s3, .slice AHk ws3.length cHk] 26 (0, 0))) := ⟨blk_below (by (with_reducible repeat (first | refine blk_drewN ?_ _ | refine blk_drew ?_ | refine blk_alloc ?_ _)); exact Kk.out) hb⟩
       have n19_ : Aside0 (Kd.R (Kd.int .u64) 82 w15 (w12.alloc (.cells #[.int .i64 s3, .slice AHk ws3.length cHk] 26 (0, 0))).heap.size (fun _ => True) (.slice AHm ws3.length cHm) ws3) := ⟨Kd.R_below (by (with_reducible repeat (first | apply Kd.R_alloc | apply Kd.R_drewN | apply Kd.R_drew)); exact Hm.out) hb⟩
       have n20_ : Aside0 (w15.heap[w13.heap.size]? = some (.cells #[.int .i64 s3, .slice AHm ws3.length cHm] 26 (0, 0))) := ⟨blk_below (by (with_reducible repeat (first | refine blk_drewN ?_ _ | refine blk_drew ?_ | refine blk_alloc ?_ _)); exact Km.out) hb⟩
       clear HB HC HC2 BK101 BK102 HTu Ku HTv Kv Hc Kc Hd Kd_ Hg Kg Hi Ki Hk Kk Hm Km
       have HB := n0_
       have HC := n1_
       have HC2 := n2_
       have BK101 := n3_
       have BK102 := n4_
       have HTu := n5_
       have Ku := n6_
       have HTv := n7_
       have Kv := n8_
       have Hc := n9_
       have Kc := n10_
       have Hd := n11_
       have Kd_ := n12_
       have Hg := n13_
       have Kg := n14_
       have Hi := n15_
       have Ki := n16_
       have Hk := n17_
       have Kk := n18_
       have Hm := n19_
       have Km := n20_
       clear n0_ n1_ n2_ n3_ n4_ n5_ n6_ n7_ n8_ n9_ n10_ n11_ n12_ n13_ n14_ n15_ n16_ n17_ n18_ n19_ n20_
       clear qKg0 zqKg0 qKg1 zqKg1 qKi0 zqKi0 qKi1 zqKi1
       have qKk0 := (blk_cell Kk.out 0).trans rfl
       have zqKk0 := blk_frozen Kk.out 0
       have qKk1 := (blk_cell Kk.out 1).trans rfl
       have zqKk1 := blk_frozen Kk.out 1
       have qKm0 := (blk_cell Km.out 0).trans rfl
       have zqKm0 := blk_frozen Km.out 0
       have qKm1 := (blk_cell Km.out 1).trans rfl
       have zqKm1 := blk_frozen Km.out 1
       clear hb)
    | (go_at_call 19
       (with_reducible refine (slopelaw3_num.calls e2 e2 _ rfl).mono ?_)
       rintro e w' ⟨rfl, ⟨nd78, rfl⟩⟩)
    | (go_at_call 18
       (with_reducible refine (slopelaw3_same.calls k s3 _ _ ws3 s3 _ _ ws3 true _ ?s1a ?s1b ?s2a ?s2b HS3.out).mono ?_)
       (case s1a => exact ((Kd.R_reads' (by (with_reducible repeat (first | apply Kd.R_alloc | apply Kd.R_drewN | apply Kd.R_drew)); exact Hk.out)).2.2))
       (case s1b => exact ((Kd.R_reads' Hk.out).2.1))
       (case s2a => exact ((Kd.R_reads' (by (with_reducible repeat (first | apply Kd.R_alloc | apply Kd.R_drewN | apply Kd.R_drew)); exact Hm.out)).2.2))
       (case s2b => exact ((Kd.R_reads' Hm.out).2.1))
       rintro e w16 ⟨rfl, hb⟩
       have n0_ : Aside0 (Below w.heap.size w w16) := ⟨below_step (by repeat (first | (with_reducible first | exact HB.out | apply below_alloc | apply pw_below_drewN | apply below_drew1) | exact HB.out)) hb⟩
       have n1_ : Aside0 (Kd.C (Kd.int .u64) w16 A0 l0.length l0) := ⟨Kd.C_below (by repeat (first | exact HC.out | (with_reducible refine Kd.C_alloc ?_ _) | (with_reducible refine Kd.C_drewN ?_ _) | (with_reducible refine Kd.C_drew ?_))) hb⟩
       have n2_ : Aside0 (Kd.C (Kd.int .u64) w16 A1 l1.length l1) := ⟨Kd.C_below (by repeat (first | exact HC2.out | (with_reducible refine Kd.C_alloc ?_ _) | (with_reducible refine Kd.C_drewN ?_ _) | (with_reducible refine Kd.C_drew ?_))) hb⟩
       have n3_ : Aside0 (w16.heap[gb101]? = some (.cells #[.int .i64 n0, .slice A0 l0.length c0] 26 (0, 0))) := ⟨blk_below (by (with_reducible repeat (first | refine blk_drewN ?_ _ | refine blk_drew ?_ | refine blk_alloc ?_ _)); exact BK101.out) hb⟩
       have n4_ : Aside0 (w16.heap[gb102]? = some (.cells #[.int .i64 n1, .slice A1 l1.length c1] 26 (0, 0))) := ⟨blk_below (by (with_reducible repeat (first | refine blk_drewN ?_ _ | refine blk_drew ?_ | refine blk_alloc ?_ _)); exact BK102.out) hb⟩
       have n5_ : Aside0 (Kd.R (Kd.int .u64) 82 w16 w5.heap.size (fun _ => True) (.slice (some ⟨gu, 0, none⟩) (l0 ++ [theMark]).length capu) (l0 ++ [theMark])) := ⟨Kd.R_below (by (with_reducible repeat (first | apply Kd.R_alloc | apply Kd.R_drewN | apply Kd.R_drew)); exact HTu.out) hb⟩
       have n6_ : Aside0 (w16.heap[w6.heap.size]? = some (.cells #[.int .i64 n0, .slice (some ⟨gu, 0, none⟩) l0.length capu] 26 (0, 0))) := ⟨blk_below (by (with_reducible repeat (first | refine blk_drewN ?_ _ | refine blk_drew ?_ | refine blk_alloc ?_ _)); exact Ku.out) hb⟩
       have n7_ : Aside0 (Kd.R (Kd.int .u64) 82 w16 (w6.alloc (.cells #[.int .i64 n0, .slice (some ⟨gu, 0, none⟩) l0.length capu] 26 (0, 0))).heap.size (fun _ => True) (.slice (some ⟨gv, 0, none⟩) (l1 ++ [theMark]).length capv) (l1 ++ [theMark])) := ⟨Kd.R_below (by (with_reducible repeat (first | apply Kd.R_alloc | apply Kd.R_drewN | apply Kd.R_drew)); exact HTv.out) hb⟩
       have n8_ : Aside0 (w16.heap[w7.heap.size]? = some (.cells #[.int .i64 n1, .slice (some ⟨gv, 0, none⟩) l1.length capv] 26 (0, 0))) := ⟨blk_below (by (with_reducible repeat (first | refine blk_drewN ?_ _ | refine blk_drew ?_ | refine blk_alloc ?_ _)); exact Kv.out) hb⟩
       have n9_ : Aside0 (Kd.R (Kd.int .u64) 82 w16 (w7.alloc (.cells #[.int .i64 n1, .slice (some ⟨gv, 0, none⟩) l1.length capv] 26 (0, 0))).heap.size (fun _ => True) (.slice AHc ws1.length cHc) ws1) := ⟨Kd.R_below (by (with_reducible repeat (first | apply Kd.R_alloc | apply Kd.R_drewN | apply Kd.R_drew)); exact Hc.out) hb⟩
       have n10_ : Aside0 (w16.heap[w8.heap.size]? = some (.cells #[.int .i64 s1, .slice AHc ws1.length cHc] 26 (0, 0))) := ⟨blk_below (by (with_reducible repeat (first | refine blk_drewN ?_ _ | refine blk_drew ?_ | refine blk_alloc ?_ _)); exact Kc.out) hb⟩
       have n11_ : Aside0 (Kd.R (Kd.int .u64) 82 w16 (w8.alloc (.cells #[.int .i64 s1, .slice AHc ws1.length cHc] 26 (0, 0))).heap.size (fun _ => True) (.slice AHd ws1.length cHd) ws1) := ⟨Kd.R_below (by (with_reducible repeat (first | apply Kd.R_alloc | apply Kd.R_drewN | apply Kd.R_drew)); exact Hd.out) hb⟩
       have n12_ : Aside0 (w16.heap[w9.heap.size]? = some (.cells #[.int .i64 s1, .slice AHd ws1.length cHd] 26 (0, 0))) := ⟨blk_below (by (with_reducible repeat (first | refine blk_drewN ?_ _ | refine blk_drew ?_ | refine blk_alloc ?_ _)); exact Kd_.out) hb⟩
       have n13_ : Aside0 (Kd.R (Kd.int .u64) 82 w16 (w9.alloc (.cells #[.int .i64 s1, .slice AHd ws1.length cHd] 26 (0, 0))).heap.size (fun _ => True) (.slice AHg ws2.length cHg) ws2) := ⟨Kd.R_below (by (with_reducible repeat (first | apply Kd.R_alloc | apply Kd.R_drewN | apply Kd.R_drew)); exact Hg.out) hb⟩
       have n14_ : Aside0 (w16.heap[w10.heap.size]? = some (.cells #[.int .i64 s2, .slice AHg ws2.length cHg] 26 (0, 0))) := ⟨blk_below (by (with_reducible repeat (first | refine blk_drewN ?_ _ | refine blk_drew ?_ | refine blk_alloc ?_ _)); exact Kg.out) hb⟩
       have n15_ : Aside0 (Kd.R (Kd.int .u64) 82 w16 (w10.alloc (.cells #[.int .i64 s2, .slice AHg ws2.length cHg] 26 (0, 0))).heap.size (fun _ => True) (.slice AHi ws2.length cHi) ws2) := ⟨Kd.R_below (by (with_reducible repeat (first | apply Kd.R_alloc | apply Kd.R_drewN | apply Kd.R_drew)); exact Hi.out) hb⟩
       have n16_ : Aside0 (w16.heap[w11.heap.size]? = some (.cells #[.int .i64 s2, .slice AHi ws2.length cHi] 26 (0, 0))) := ⟨blk_below (by (with_reducible repeat (first | refine blk_drewN ?_ _ | refine blk_drew ?_ | refine blk_alloc ?_ _)); exact Ki.out) hb⟩
       have n17_ : Aside0 (Kd.R (Kd.int .u64) 82 w16 (w11.alloc (.cells #[.int .i64 s2, .slice AHi ws2.length cHi] 26 (0, 0))).heap.size (fun _ => True) (.slice AHk ws3.length cHk) ws3) := ⟨Kd.R_below (by (with_reducible repeat (first | apply Kd.R_alloc | apply Kd.R_drewN | apply Kd.R_drew)); exact Hk.out) hb⟩
       have n18_ : Aside0 (w16.heap[w12.heap.size]? = some (.cells #[.int .i64 s3, .slice AHk ws3.length cHk] 26 (0, 0))) := ⟨blk_below (by (with_reducible repeat (first | refine blk_drewN ?_ _ | refine blk_drew ?_ | refine blk_alloc ?_ _)); exact Kk.out) hb⟩
       have n19_ : Aside0 (Kd.R (Kd.int .u64) 82 w16 (w12.alloc (.cells #[.int .i64 s3, .slice AHk ws3.length cHk] 26 (0, 0))).heap.size (fun _ => True) (.slice AHm ws3.length cHm) ws3) := ⟨Kd.R_below (by (with_reducible repeat (first | apply Kd.R_alloc | apply Kd.R_drewN | apply Kd.R_drew)); exact Hm.out) hb⟩
       have n20_ : Aside0 (w16.heap[w13.heap.size]? = some (.cells #[.int .i64 s3, .slice AHm ws3.length cHm] 26 (0, 0))) := ⟨blk_below (by (with_reducible repeat (first | refine blk_drewN ?_ _ | refine blk_drew ?_ | refine blk_alloc ?_ _)); exact Km.out) hb⟩
       clear HB HC HC2 BK101 BK102 HTu Ku HTv Kv Hc Kc Hd Kd_ Hg Kg Hi Ki Hk Kk Hm Km
       have HB := n0_
       have HC := n1_
       have HC2 := n2_
       have BK101 := n3_
       have BK102 := n4_
       have HTu := n5_
       have Ku := n6_
       have HTv := n7_
       have Kv := n8_
       have Hc := n9_
       have Kc := n10_
       have Hd := n11_
       have Kd_ := n12_
       have Hg := n13_
       have Kg := n14_
       have Hi := n15_
       have Ki := n16_
       have Hk := n17_
       have Kk := n18_
       have Hm := n19_
       have Km := n20_
       clear n0_ n1_ n2_ n3_ n4_ n5_ n6_ n7_ n8_ n9_ n10_ n11_ n12_ n13_ n14_ n15_ n16_ n17_ n18_ n19_ n20_
       clear qKk0 zqKk0 qKk1 zqKk1 qKm0 zqKm0 qKm1 zqKm1
       have qBK1010 := (blk_cell BK101.out 0).trans rfl
       have zqBK1010 := blk_frozen BK101.out 0
       have qBK1011 := (blk_cell BK101.out 1).trans rfl
       have zqBK1011 := blk_frozen BK101.out 1
       have qBK1020 := (blk_cell BK102.out 0).trans rfl
       have zqBK1020 := blk_frozen BK102.out 0
       have qBK1021 := (blk_cell BK102.out 1).trans rfl
       have zqBK1021 := blk_frozen BK102.out 1
       clear hb)
    | (go_at_call 19
       (with_reducible refine (slopelaw3_num.calls e3 e3 _ rfl).mono ?_)
       rintro e w' ⟨rfl, ⟨nd90, rfl⟩⟩)
    | ((with_reducible refine gate_callee (f := 46) rfl ?_)
       refine goesL_ (some 97) rfl rfl Try.func46 (by kernel_rfl) rfl #[.agg #[.int .i64 n0, .slice A0 l0.length c0], .agg #[.int .i64 n1, .slice A1 l1.length c1]] rfl (by (try simp only [List.map_toArray, List.map_cons, List.map_nil]); first | done | rfl) ?_
       (with_reducible refine (sloperef3_Related.calls k n0 _ _ l0 n1 _ _ l1 bx by_ bz _ ?s1a ?s1b ?s2a ?s2b HX.out).mono ?_)
       (case s1a => exact (by repeat (first | exact HC.out | (with_reducible refine Kd.C_alloc ?_ _) | (with_reducible refine Kd.C_drewN ?_ _) | (with_reducible refine Kd.C_drew ?_))))
       (case s1b => exact (hc_HC))
       (case s2a => exact (by repeat (first | exact HC2.out | (with_reducible refine Kd.C_alloc ?_ _) | (with_reducible refine Kd.C_drewN ?_ _) | (with_reducible refine Kd.C_drew ?_))))
       (case s2b => exact (hc_HC2))
       rintro e w17 ⟨rfl, hb⟩
       refine ⟨_, rfl, ?_⟩
       have n0_ : Aside0 (Below w.heap.size w w17) := ⟨below_step (by repeat (first | (with_reducible first | exact HB.out | apply below_alloc | apply pw_below_drewN | apply below_drew1) | exact HB.out)) hb⟩
       have n1_ : Aside0 (Kd.C (Kd.int .u64) w17 A0 l0.length l0) := ⟨Kd.C_below (by repeat (first | exact HC.out | (with_reducible refine Kd.C_alloc ?_ _) | (with_reducible refine Kd.C_drewN ?_ _) | (with_reducible refine Kd.C_drew ?_))) hb⟩
       have n2_ : Aside0 (Kd.C (Kd.int .u64) w17 A1 l1.length l1) := ⟨Kd.C_below (by repeat (first | exact HC2.out | (with_reducible refine Kd.C_alloc ?_ _) | (with_reducible refine Kd.C_drewN ?_ _) | (with_reducible refine Kd.C_drew ?_))) hb⟩
       have n3_ : Aside0 (w17.heap[gb101]? = some (.cells #[.int .i64 n0, .slice A0 l0.length c0] 26 (0, 0))) := ⟨blk_below (by (with_reducible repeat (first | refine blk_drewN ?_ _ | refine blk_drew ?_ | refine blk_alloc ?_ _)); exact BK101.out) hb⟩
       have n4_ : Aside0 (w17.heap[gb102]? = some (.cells #[.int .i64 n1, .slice A1 l1.length c1] 26 (0, 0))) := ⟨blk_below (by (with_reducible repeat (first | refine blk_drewN ?_ _ | refine blk_drew ?_ | refine blk_alloc ?_ _)); exact BK102.out) hb⟩
       have n5_ : Aside0 (Kd.R (Kd.int .u64) 82 w17 w5.heap.size (fun _ => True) (.slice (some ⟨gu, 0, none⟩) (l0 ++ [theMark]).length capu) (l0 ++ [theMark])) := ⟨Kd.R_below (by (with_reducible repeat (first | apply Kd.R_alloc | apply Kd.R_drewN | apply Kd.R_drew)); exact HTu.out) hb⟩
       have n6_ : Aside0 (w17.heap[w6.heap.size]? = some (.cells #[.int .i64 n0, .slice (some ⟨gu, 0, none⟩) l0.length capu] 26 (0, 0))) := ⟨blk_below (by (with_reducible repeat (first | refine blk_drewN ?_ _ | refine blk_drew ?_ | refine blk_alloc ?_ _)); exact Ku.out) hb⟩
       have n7_ : Aside0 (Kd.R (Kd.int .u64) 82 w17 (w6.alloc (.cells #[.int .i64 n0, .slice (some ⟨gu, 0, none⟩) l0.length capu] 26 (0, 0))).heap.size (fun _ => True) (.slice (some ⟨gv, 0, none⟩) (l1 ++ [theMark]).length capv) (l1 ++ [theMark])) := ⟨Kd.R_below (by (with_reducible repeat (first | apply Kd.R_alloc | apply Kd.R_drewN | apply Kd.R_drew)); exact HTv.out) hb⟩
       have n8_ : Aside0 (w17.heap[w7.heap.size]? = some (.cells #[.int .i64 n1, .slice (some ⟨gv, 0, none⟩) l1.length capv] 26 (0, 0))) := ⟨blk_below (by (with_reducible repeat (first | refine blk_drewN ?_ _ | refine blk_drew ?_ | refine blk_alloc ?_ _)); exact Kv.out) hb⟩
       have n9_ : Aside0 (Kd.R (Kd.int .u64) 82 w17 (w7.alloc (.cells #[.int .i64 n1, .slice (some ⟨gv, 0, none⟩) l1.length capv] 26 (0, 0))).heap.size (fun _ => True) (.slice AHc ws1.length cHc) ws1) := ⟨Kd.R_below (by (with_reducible repeat (first | apply Kd.R_alloc | apply Kd.R_drewN | apply Kd.R_drew)); exact Hc.out) hb⟩
       have n10_ : Aside0 (w17.heap[w8.heap.size]? = some (.cells #[.int .i64 s1, .slice AHc ws1.length cHc] 26 (0, 0))) := ⟨blk_below (by (with_reducible repeat (first | refine blk_drewN ?_ _ | refine blk_drew ?_ | refine blk_alloc ?_ _)); exact Kc.out) hb⟩
       have n11_ : Aside0 (Kd.R (Kd.int .u64) 82 w17 (w8.alloc (.cells #[.int .i64 s1, .slice AHc ws1.length cHc] 26 (0, 0))).heap.size (fun _ => True) (.slice AHd ws1.length cHd) ws1) := ⟨Kd.R_below (by (with_reducible repeat (first | apply Kd.R_alloc | apply Kd.R_drewN | apply Kd.R_drew)); exact Hd.out) hb⟩
       have n12_ : Aside0 (w17.heap[w9.heap.size]? = some (.cells #[.int .i64 s1, .slice AHd ws1.length cHd] 26 (0, 0))) := ⟨blk_below (by (with_reducible repeat (first | refine blk_drewN ?_ _ | refine blk_drew ?_ | refine blk_alloc ?_ _)); exact Kd_.out) hb⟩
       have n13_ : Aside0 (Kd.R (Kd.int .u64) 82 w17 (w9.alloc (.cells #[.int .i64 s1, .slice AHd ws1.length cHd] 26 (0, 0))).heap.size (fun _ => True) (.slice AHg ws2.length cHg) ws2) := ⟨Kd.R_below (by (with_reducible repeat (first | apply Kd.R_alloc | apply Kd.R_drewN | apply Kd.R_drew)); exact Hg.out) hb⟩
       have n14_ : Aside0 (w17.heap[w10.heap.size]? = some (.cells #[.int .i64 s2, .slice AHg ws2.length cHg] 26 (0, 0))) := ⟨blk_below (by (with_reducible repeat (first | refine blk_drewN ?_ _ | refine blk_drew ?_ | refine blk_alloc ?_ _)); exact Kg.out) hb⟩
       have n15_ : Aside0 (Kd.R (Kd.int .u64) 82 w17 (w10.alloc (.cells #[.int .i64 s2, .slice AHg ws2.length cHg] 26 (0, 0))).heap.size (fun _ => True) (.slice AHi ws2.length cHi) ws2) := ⟨Kd.R_below (by (with_reducible repeat (first | apply Kd.R_alloc | apply Kd.R_drewN | apply Kd.R_drew)); exact Hi.out) hb⟩
       have n16_ : Aside0 (w17.heap[w11.heap.size]? = some (.cells #[.int .i64 s2, .slice AHi ws2.length cHi] 26 (0, 0))) := ⟨blk_below (by (with_reducible repeat (first | refine blk_drewN ?_ _ | refine blk_drew ?_ | refine blk_alloc ?_ _)); exact Ki.out) hb⟩
       have n17_ : Aside0 (Kd.R (Kd.int .u64) 82 w17 (w11.alloc (.cells #[.int .i64 s2, .slice AHi ws2.length cHi] 26 (0, 0))).heap.size (fun _ => True) (.slice AHk ws3.length cHk) ws3) := ⟨Kd.R_below (by (with_reducible repeat (first | apply Kd.R_alloc | apply Kd.R_drewN | apply Kd.R_drew)); exact Hk.out) hb⟩
       have n18_ : Aside0 (w17.heap[w12.heap.size]? = some (.cells #[.int .i64 s3, .slice AHk ws3.length cHk] 26 (0, 0))) := ⟨blk_below (by (with_reducible repeat (first | refine blk_drewN ?_ _ | refine blk_drew ?_ | refine blk_alloc ?_ _)); exact Kk.out) hb⟩
       have n19_ : Aside0 (Kd.R (Kd.int .u64) 82 w17 (w12.alloc (.cells #[.int .i64 s3, .slice AHk ws3.length cHk] 26 (0, 0))).heap.size (fun _ => True) (.slice AHm ws3.length cHm) ws3) := ⟨Kd.R_below (by (with_reducible repeat (first | apply Kd.R_alloc | apply Kd.R_drewN | apply Kd.R_drew)); exact Hm.out) hb⟩
       have n20_ : Aside0 (w17.heap[w13.heap.size]? = some (.cells #[.int .i64 s3, .slice AHm ws3.length cHm] 26 (0, 0))) := ⟨blk_below (by (with_reducible repeat (first | refine blk_drewN ?_ _ | refine blk_drew ?_ | refine blk_alloc ?_ _)); exact Km.out) hb⟩
       clear HB HC HC2 BK101 BK102 HTu Ku HTv Kv Hc Kc Hd Kd_ Hg Kg Hi Ki Hk Kk Hm Km
       have HB := n0_
       have HC := n1_
       have HC2 := n2_
       have BK101 := n3_
       have BK102 := n4_
       have HTu := n5_
       have Ku := n6_
       have HTv := n7_
       have Kv := n8_
       have Hc := n9_
       have Kc := n10_
       have Hd := n11_
       have Kd_ := n12_
       have Hg := n13_
       have Kg := n14_
       have Hi := n15_
       have Ki := n16_
       have Hk := n17_
       have Kk := n18_
       have Hm := n19_
       have Km := n20_
       clear n0_ n1_ n2_ n3_ n4_ n5_ n6_ n7_ n8_ n9_ n10_ n11_ n12_ n13_ n14_ n15_ n16_ n17_ n18_ n19_ n20_
       clear qBK1010 zqBK1010 qBK1011 zqBK1011 qBK1020 zqBK1020 qBK1021 zqBK1021
       have qKu0 := (blk_cell Ku.out 0).trans rfl
       have zqKu0 := blk_frozen Ku.out 0
       have qKu1 := (blk_cell Ku.out 1).trans rfl
       have zqKu1 := blk_frozen Ku.out 1
       have qKv0 := (blk_cell Kv.out 0).trans rfl
       have zqKv0 := blk_frozen Kv.out 0
       have qKv1 := (blk_cell Kv.out 1).trans rfl
       have zqKv1 := blk_frozen Kv.out 1
       clear hb)
    | ((with_reducible refine gate_callee (f := 39) rfl ?_)
       refine goesL_ (some 103) rfl rfl Try.func39 (by kernel_rfl) rfl #[.agg #[.int .i64 n0, .slice (some ⟨gu, 0, none⟩) l0.length capu], .agg #[.int .i64 n1, .slice (some ⟨gv, 0, none⟩) l1.length capv]] rfl (by (try simp only [List.map_toArray, List.map_cons, List.map_nil]); first | done | rfl) ?_
       (with_reducible refine (bitset_Equal.calls k n0 _ _ l0 n1 _ _ l1 bx _ ?s1a ?s1b ?s2a ?s2b HXx.out).mono ?_)
       (case s1a => exact (wmarked_reads (by (with_reducible repeat (first | apply Kd.R_alloc | apply Kd.R_drewN | apply Kd.R_drew)); exact HTu.out)))
       (case s1b => exact (wmarked_fits HTu.out))
       (case s2a => exact (wmarked_reads (by (with_reducible repeat (first | apply Kd.R_alloc | apply Kd.R_drewN | apply Kd.R_drew)); exact HTv.out)))
       (case s2b => exact (wmarked_fits HTv.out))
       rintro e w18 ⟨rfl, hb⟩
       refine ⟨_, rfl, ?_⟩
       have n0_ : Aside0 (Below w.heap.size w w18) := ⟨below_step (by repeat (first | (with_reducible first | exact HB.out | apply below_alloc | apply pw_below_drewN | apply below_drew1) | exact HB.out)) hb⟩
       have n1_ : Aside0 (Kd.C (Kd.int .u64) w18 A0 l0.length l0) := ⟨Kd.C_below (by repeat (first | exact HC.out | (with_reducible refine Kd.C_alloc ?_ _) | (with_reducible refine Kd.C_drewN ?_ _) | (with_reducible refine Kd.C_drew ?_))) hb⟩
       have n2_ : Aside0 (Kd.C (Kd.int .u64) w18 A1 l1.length l1) := ⟨Kd.C_below (by repeat (first | exact HC2.out | (with_reducible refine Kd.C_alloc ?_ _) | (with_reducible refine Kd.C_drewN ?_ _) | (with_reducible refine Kd.C_drew ?_))) hb⟩
       have n3_ : Aside0 (w18.heap[gb101]? = some (.cells #[.int .i64 n0, .slice A0 l0.length c0] 26 (0, 0))) := ⟨blk_below (by (with_reducible repeat (first | refine blk_drewN ?_ _ | refine blk_drew ?_ | refine blk_alloc ?_ _)); exact BK101.out) hb⟩
       have n4_ : Aside0 (w18.heap[gb102]? = some (.cells #[.int .i64 n1, .slice A1 l1.length c1] 26 (0, 0))) := ⟨blk_below (by (with_reducible repeat (first | refine blk_drewN ?_ _ | refine blk_drew ?_ | refine blk_alloc ?_ _)); exact BK102.out) hb⟩
       have n5_ : Aside0 (Kd.R (Kd.int .u64) 82 w18 w5.heap.size (fun _ => True) (.slice (some ⟨gu, 0, none⟩) (l0 ++ [theMark]).length capu) (l0 ++ [theMark])) := ⟨Kd.R_below (by (with_reducible repeat (first | apply Kd.R_alloc | apply Kd.R_drewN | apply Kd.R_drew)); exact HTu.out) hb⟩
       have n6_ : Aside0 (w18.heap[w6.heap.size]? = some (.cells #[.int .i64 n0, .slice (some ⟨gu, 0, none⟩) l0.length capu] 26 (0, 0))) := ⟨blk_below (by (with_reducible repeat (first | refine blk_drewN ?_ _ | refine blk_drew ?_ | refine blk_alloc ?_ _)); exact Ku.out) hb⟩
       have n7_ : Aside0 (Kd.R (Kd.int .u64) 82 w18 (w6.alloc (.cells #[.int .i64 n0, .slice (some ⟨gu, 0, none⟩) l0.length capu] 26 (0, 0))).heap.size (fun _ => True) (.slice (some ⟨gv, 0, none⟩) (l1 ++ [theMark]).length capv) (l1 ++ [theMark])) := ⟨Kd.R_below (by (with_reducible repeat (first | apply Kd.R_alloc | apply Kd.R_drewN | apply Kd.R_drew)); exact HTv.out) hb⟩
       have n8_ : Aside0 (w18.heap[w7.heap.size]? = some (.cells #[.int .i64 n1, .slice (some ⟨gv, 0, none⟩) l1.length capv] 26 (0, 0))) := ⟨blk_below (by (with_reducible repeat (first | refine blk_drewN ?_ _ | refine blk_drew ?_ | refine blk_alloc ?_ _)); exact Kv.out) hb⟩
       have n9_ : Aside0 (Kd.R (Kd.int .u64) 82 w18 (w7.alloc (.cells #[.int .i64 n1, .slice (some ⟨gv, 0, none⟩) l1.length capv] 26 (0, 0))).heap.size (fun _ => True) (.slice AHc ws1.length cHc) ws1) := ⟨Kd.R_below (by (with_reducible repeat (first | apply Kd.R_alloc | apply Kd.R_drewN | apply Kd.R_drew)); exact Hc.out) hb⟩
       have n10_ : Aside0 (w18.heap[w8.heap.size]? = some (.cells #[.int .i64 s1, .slice AHc ws1.length cHc] 26 (0, 0))) := ⟨blk_below (by (with_reducible repeat (first | refine blk_drewN ?_ _ | refine blk_drew ?_ | refine blk_alloc ?_ _)); exact Kc.out) hb⟩
       have n11_ : Aside0 (Kd.R (Kd.int .u64) 82 w18 (w8.alloc (.cells #[.int .i64 s1, .slice AHc ws1.length cHc] 26 (0, 0))).heap.size (fun _ => True) (.slice AHd ws1.length cHd) ws1) := ⟨Kd.R_below (by (with_reducible repeat (first | apply Kd.R_alloc | apply Kd.R_drewN | apply Kd.R_drew)); exact Hd.out) hb⟩
       have n12_ : Aside0 (w18.heap[w9.heap.size]? = some (.cells #[.int .i64 s1, .slice AHd ws1.length cHd] 26 (0, 0))) := ⟨blk_below (by (with_reducible repeat (first | refine blk_drewN ?_ _ | refine blk_drew ?_ | refine blk_alloc ?_ _)); exact Kd_.out) hb⟩
       have n13_ : Aside0 (Kd.R (Kd.int .u64) 82 w18 (w9.alloc (.cells #[.int .i64 s1, .slice AHd ws1.length cHd] 26 (0, 0))).heap.size (fun _ => True) (.slice AHg ws2.length cHg) ws2) := ⟨Kd.R_below (by (with_reducible repeat (first | apply Kd.R_alloc | apply Kd.R_drewN | apply Kd.R_drew)); exact Hg.out) hb⟩
       have n14_ : Aside0 (w18.heap[w10.heap.size]? = some (.cells #[.int .i64 s2, .slice AHg ws2.length cHg] 26 (0, 0))) := ⟨blk_below (by (with_reducible repeat (first | refine blk_drewN ?_ _ | refine blk_drew ?_ | refine blk_alloc ?_ _)); exact Kg.out) hb⟩
       have n15_ : Aside0 (Kd.R (Kd.int .u64) 82 w18 (w10.alloc (.cells #[.int .i64 s2, .slice AHg ws2.length cHg] 26 (0, 0))).heap.size (fun _ => True) (.slice AHi ws2.length cHi) ws2) := ⟨Kd.R_below (by (with_reducible repeat (first | apply Kd.R_alloc | apply Kd.R_drewN | apply Kd.R_drew)); exact Hi.out) hb⟩
       have n16_ : Aside0 (w18.heap[w11.heap.size]? = some (.cells #[.int .i64 s2, .slice AHi ws2.length cHi] 26 (0, 0))) := ⟨blk_below (by (with_reducible repeat (first | refine blk_drewN ?_ _ | refine blk_drew ?_ | refine blk_alloc ?_ _)); exact Ki.out) hb⟩
       have n17_ : Aside0 (Kd.R (Kd.int .u64) 82 w18 (w11.alloc (.cells #[.int .i64 s2, .slice AHi ws2.length cHi] 26 (0, 0))).heap.size (fun _ => True) (.slice AHk ws3.length cHk) ws3) := ⟨Kd.R_below (by (with_reducible repeat (first | apply Kd.R_alloc | apply Kd.R_drewN | apply Kd.R_drew)); exact Hk.out) hb⟩
       have n18_ : Aside0 (w18.heap[w12.heap.size]? = some (.cells #[.int .i64 s3, .slice AHk ws3.length cHk] 26 (0, 0))) := ⟨blk_below (by (with_reducible repeat (first | refine blk_drewN ?_ _ | refine blk_drew ?_ | refine blk_alloc ?_ _)); exact Kk.out) hb⟩
       have n19_ : Aside0 (Kd.R (Kd.int .u64) 82 w18 (w12.alloc (.cells #[.int .i64 s3, .slice AHk ws3.length cHk] 26 (0, 0))).heap.size (fun _ => True) (.slice AHm ws3.length cHm) ws3) := ⟨Kd.R_below (by (with_reducible repeat (first | apply Kd.R_alloc | apply Kd.R_drewN | apply Kd.R_drew)); exact Hm.out) hb⟩
       have n20_ : Aside0 (w18.heap[w13.heap.size]? = some (.cells #[.int .i64 s3, .slice AHm ws3.length cHm] 26 (0, 0))) := ⟨blk_below (by (with_reducible repeat (first | refine blk_drewN ?_ _ | refine blk_drew ?_ | refine blk_alloc ?_ _)); exact Km.out) hb⟩
       clear HB HC HC2 BK101 BK102 HTu Ku HTv Kv Hc Kc Hd Kd_ Hg Kg Hi Ki Hk Kk Hm Km
       have HB := n0_
       have HC := n1_
       have HC2 := n2_
       have BK101 := n3_
       have BK102 := n4_
       have HTu := n5_
       have Ku := n6_
       have HTv := n7_
       have Kv := n8_
       have Hc := n9_
       have Kc := n10_
       have Hd := n11_
       have Kd_ := n12_
       have Hg := n13_
       have Kg := n14_
       have Hi := n15_
       have Ki := n16_
       have Hk := n17_
       have Kk := n18_
       have Hm := n19_
       have Km := n20_
       clear n0_ n1_ n2_ n3_ n4_ n5_ n6_ n7_ n8_ n9_ n10_ n11_ n12_ n13_ n14_ n15_ n16_ n17_ n18_ n19_ n20_
       clear qKu0 zqKu0 qKu1 zqKu1 qKv0 zqKv0 qKv1 zqKv1
       have qKu0 := (blk_cell Ku.out 0).trans rfl
       have zqKu0 := blk_frozen Ku.out 0
       have qKu1 := (blk_cell Ku.out 1).trans rfl
       have zqKu1 := blk_frozen Ku.out 1
       have qKv0 := (blk_cell Kv.out 0).trans rfl
       have zqKv0 := blk_frozen Kv.out 0
       have qKv1 := (blk_cell Kv.out 1).trans rfl
       have zqKv1 := blk_frozen Kv.out 1
       clear hb)
    | (go_at_call 40
       (with_reducible refine (bitset_Subset.calls k n0 _ _ l0 n1 _ _ l1 by_ _ ?s1a ?s1b ?s2a ?s2b HXy.out).mono ?_)
       (case s1a => exact (wmarked_reads (by (with_reducible repeat (first | apply Kd.R_alloc | apply Kd.R_drewN | apply Kd.R_drew)); exact HTu.out)))
       (case s1b => exact (wmarked_fits HTu.out))
       (case s2a => exact (wmarked_reads (by (with_reducible repeat (first | apply Kd.R_alloc | apply Kd.R_drewN | apply Kd.R_drew)); exact HTv.out)))
       (case s2b => exact (wmarked_fits HTv.out))
       rintro e w19 ⟨rfl, hb⟩
       have n0_ : Aside0 (Below w.heap.size w w19) := ⟨below_step (by repeat (first | (with_reducible first | exact HB.out | apply below_alloc | apply pw_below_drewN | apply below_drew1) | exact HB.out)) hb⟩
       have n1_ : Aside0 (Kd.C (Kd.int .u64) w19 A0 l0.length l0) := ⟨Kd.C_below (by repeat (first | exact HC.out | (with_reducible refine Kd.C_alloc ?_ _) | (with_reducible refine Kd.C_drewN ?_ _) | (with_reducible refine Kd.C_drew ?_))) hb⟩
       have n2_ : Aside0 (Kd.C (Kd.int .u64) w19 A1 l1.length l1) := ⟨Kd.C_below (by repeat (first | exact HC2.out | (with_reducible refine Kd.C_alloc ?_ _) | (with_reducible refine Kd.C_drewN ?_ _) | (with_reducible refine Kd.C_drew ?_))) hb⟩
       have n3_ : Aside0 (w19.heap[gb101]? = some (.cells #[.int .i64 n0, .slice A0 l0.length c0] 26 (0, 0))) := ⟨blk_below (by (with_reducible repeat (first | refine blk_drewN ?_ _ | refine blk_drew ?_ | refine blk_alloc ?_ _)); exact BK101.out) hb⟩
       have n4_ : Aside0 (w19.heap[gb102]? = some (.cells #[.int .i64 n1, .slice A1 l1.length c1] 26 (0, 0))) := ⟨blk_below (by (with_reducible repeat (first | refine blk_drewN ?_ _ | refine blk_drew ?_ | refine blk_alloc ?_ _)); exact BK102.out) hb⟩
       have n5_ : Aside0 (Kd.R (Kd.int .u64) 82 w19 w5.heap.size (fun _ => True) (.slice (some ⟨gu, 0, none⟩) (l0 ++ [theMark]).length capu) (l0 ++ [theMark])) := ⟨Kd.R_below (by (with_reducible repeat (first | apply Kd.R_alloc | apply Kd.R_drewN | apply Kd.R_drew)); exact HTu.out) hb⟩
       have n6_ : Aside0 (w19.heap[w6.heap.size]? = some (.cells #[.int .i64 n0, .slice (some ⟨gu, 0, none⟩) l0.length capu] 26 (0, 0))) := ⟨blk_below (by (with_reducible repeat (first | refine blk_drewN ?_ _ | refine blk_drew ?_ | refine blk_alloc ?_ _)); exact Ku.out) hb⟩
       have n7_ : Aside0 (Kd.R (Kd.int .u64) 82 w19 (w6.alloc (.cells #[.int .i64 n0, .slice (some ⟨gu, 0, none⟩) l0.length capu] 26 (0, 0))).heap.size (fun _ => True) (.slice (some ⟨gv, 0, none⟩) (l1 ++ [theMark]).length capv) (l1 ++ [theMark])) := ⟨Kd.R_below (by (with_reducible repeat (first | apply Kd.R_alloc | apply Kd.R_drewN | apply Kd.R_drew)); exact HTv.out) hb⟩
       have n8_ : Aside0 (w19.heap[w7.heap.size]? = some (.cells #[.int .i64 n1, .slice (some ⟨gv, 0, none⟩) l1.length capv] 26 (0, 0))) := ⟨blk_below (by (with_reducible repeat (first | refine blk_drewN ?_ _ | refine blk_drew ?_ | refine blk_alloc ?_ _)); exact Kv.out) hb⟩
       have n9_ : Aside0 (Kd.R (Kd.int .u64) 82 w19 (w7.alloc (.cells #[.int .i64 n1, .slice (some ⟨gv, 0, none⟩) l1.length capv] 26 (0, 0))).heap.size (fun _ => True) (.slice AHc ws1.length cHc) ws1) := ⟨Kd.R_below (by (with_reducible repeat (first | apply Kd.R_alloc | apply Kd.R_drewN | apply Kd.R_drew)); exact Hc.out) hb⟩
       have n10_ : Aside0 (w19.heap[w8.heap.size]? = some (.cells #[.int .i64 s1, .slice AHc ws1.length cHc] 26 (0, 0))) := ⟨blk_below (by (with_reducible repeat (first | refine blk_drewN ?_ _ | refine blk_drew ?_ | refine blk_alloc ?_ _)); exact Kc.out) hb⟩
       have n11_ : Aside0 (Kd.R (Kd.int .u64) 82 w19 (w8.alloc (.cells #[.int .i64 s1, .slice AHc ws1.length cHc] 26 (0, 0))).heap.size (fun _ => True) (.slice AHd ws1.length cHd) ws1) := ⟨Kd.R_below (by (with_reducible repeat (first | apply Kd.R_alloc | apply Kd.R_drewN | apply Kd.R_drew)); exact Hd.out) hb⟩
       have n12_ : Aside0 (w19.heap[w9.heap.size]? = some (.cells #[.int .i64 s1, .slice AHd ws1.length cHd] 26 (0, 0))) := ⟨blk_below (by (with_reducible repeat (first | refine blk_drewN ?_ _ | refine blk_drew ?_ | refine blk_alloc ?_ _)); exact Kd_.out) hb⟩
       have n13_ : Aside0 (Kd.R (Kd.int .u64) 82 w19 (w9.alloc (.cells #[.int .i64 s1, .slice AHd ws1.length cHd] 26 (0, 0))).heap.size (fun _ => True) (.slice AHg ws2.length cHg) ws2) := ⟨Kd.R_below (by (with_reducible repeat (first | apply Kd.R_alloc | apply Kd.R_drewN | apply Kd.R_drew)); exact Hg.out) hb⟩
       have n14_ : Aside0 (w19.heap[w10.heap.size]? = some (.cells #[.int .i64 s2, .slice AHg ws2.length cHg] 26 (0, 0))) := ⟨blk_below (by (with_reducible repeat (first | refine blk_drewN ?_ _ | refine blk_drew ?_ | refine blk_alloc ?_ _)); exact Kg.out) hb⟩
       have n15_ : Aside0 (Kd.R (Kd.int .u64) 82 w19 (w10.alloc (.cells #[.int .i64 s2, .slice AHg ws2.length cHg] 26 (0, 0))).heap.size (fun _ => True) (.slice AHi ws2.length cHi) ws2) := ⟨Kd.R_below (by (with_reducible repeat (first | apply Kd.R_alloc | apply Kd.R_drewN | apply Kd.R_drew)); exact Hi.out) hb⟩
       have n16_ : Aside0 (w19.heap[w11.heap.size]? = some (.cells #[.int .i64 s2, .slice AHi ws2.length cHi] 26 (0, 0))) := ⟨blk_below (by (with_reducible repeat (first | refine blk_drewN ?_ _ | refine blk_drew ?_ | refine blk_alloc ?_ _)); exact Ki.out) hb⟩
       have n17_ : Aside0 (Kd.R (Kd.int .u64) 82 w19 (w11.alloc (.cells #[.int .i64 s2, .slice AHi ws2.length cHi] 26 (0, 0))).heap.size (fun _ => True) (.slice AHk ws3.length cHk) ws3) := ⟨Kd.R_below (by (with_reducible repeat (first | apply Kd.R_alloc | apply Kd.R_drewN | apply Kd.R_drew)); exact Hk.out) hb⟩
       have n18_ : Aside0 (w19.heap[w12.heap.size]? = some (.cells #[.int .i64 s3, .slice AHk ws3.length cHk] 26 (0, 0))) := ⟨blk_below (by (with_reducible repeat (first | refine blk_drewN ?_ _ | refine blk_drew ?_ | refine blk_alloc ?_ _)); exact Kk.out) hb⟩
       have n19_ : Aside0 (Kd.R (Kd.int .u64) 82 w19 (w12.alloc (.cells #[.int .i64 s3, .slice AHk ws3.length cHk] 26 (0, 0))).heap.size (fun _ => True) (.slice AHm ws3.length cHm) ws3) := ⟨Kd.R_below (by (with_reducible repeat (first | apply Kd.R_alloc | apply Kd.R_drewN | apply Kd.R_drew)); exact Hm.out) hb⟩
       have n20_ : Aside0 (w19.heap[w13.heap.size]? = some (.cells #[.int .i64 s3, .slice AHm ws3.length cHm] 26 (0, 0))) := ⟨blk_below (by (with_reducible repeat (first | refine blk_drewN ?_ _ | refine blk_drew ?_ | refine blk_alloc ?_ _)); exact Km.out) hb⟩
       clear HB HC HC2 BK101 BK102 HTu Ku HTv Kv Hc Kc Hd Kd_ Hg Kg Hi Ki Hk Kk Hm Km
       have HB := n0_
       have HC := n1_
       have HC2 := n2_
       have BK101 := n3_
       have BK102 := n4_
       have HTu := n5_
       have Ku := n6_
       have HTv := n7_
       have Kv := n8_
       have Hc := n9_
       have Kc := n10_
       have Hd := n11_
       have Kd_ := n12_
       have Hg := n13_
       have Kg := n14_
       have Hi := n15_
       have Ki := n16_
       have Hk := n17_
       have Kk := n18_
       have Hm := n19_
       have Km := n20_
       clear n0_ n1_ n2_ n3_ n4_ n5_ n6_ n7_ n8_ n9_ n10_ n11_ n12_ n13_ n14_ n15_ n16_ n17_ n18_ n19_ n20_
       clear qKu0 zqKu0 qKu1 zqKu1 qKv0 zqKv0 qKv1 zqKv1
       have qKu0 := (blk_cell Ku.out 0).trans rfl
       have zqKu0 := blk_frozen Ku.out 0
       have qKu1 := (blk_cell Ku.out 1).trans rfl
       have zqKu1 := blk_frozen Ku.out 1
       have qKv0 := (blk_cell Kv.out 0).trans rfl
       have zqKv0 := blk_frozen Kv.out 0
       have qKv1 := (blk_cell Kv.out 1).trans rfl
       have zqKv1 := blk_frozen Kv.out 1
       clear hb)
    | (go_at_call 47
       (with_reducible refine (bitset_Disjoint.calls k n0 _ _ l0 n1 _ _ l1 bz _ ?s1a ?s1b ?s2a ?s2b HXz.out).mono ?_)
       (case s1a => exact (wmarked_reads (by (with_reducible repeat (first | apply Kd.R_alloc | apply Kd.R_drewN | apply Kd.R_drew)); exact HTu.out)))
       (case s1b => exact (wmarked_fits HTu.out))
       (case s2a => exact (wmarked_reads (by (with_reducible repeat (first | apply Kd.R_alloc | apply Kd.R_drewN | apply Kd.R_drew)); exact HTv.out)))
       (case s2b => exact (wmarked_fits HTv.out))
       rintro e w20 ⟨rfl, hb⟩
       have n0_ : Aside0 (Below w.heap.size w w20) := ⟨below_step (by repeat (first | (with_reducible first | exact HB.out | apply below_alloc | apply pw_below_drewN | apply below_drew1) | exact HB.out)) hb⟩
       have n1_ : Aside0 (Kd.C (Kd.int .u64) w20 A0 l0.length l0) := ⟨Kd.C_below (by repeat (first | exact HC.out | (with_reducible refine Kd.C_alloc ?_ _) | (with_reducible refine Kd.C_drewN ?_ _) | (with_reducible refine Kd.C_drew ?_))) hb⟩
       have n2_ : Aside0 (Kd.C (Kd.int .u64) w20 A1 l1.length l1) := ⟨Kd.C_below (by repeat (first | exact HC2.out | (with_reducible refine Kd.C_alloc ?_ _) | (with_reducible refine Kd.C_drewN ?_ _) | (with_reducible refine Kd.C_drew ?_))) hb⟩
       have n3_ : Aside0 (w20.heap[gb101]? = some (.cells #[.int .i64 n0, .slice A0 l0.length c0] 26 (0, 0))) := ⟨blk_below (by (with_reducible repeat (first | refine blk_drewN ?_ _ | refine blk_drew ?_ | refine blk_alloc ?_ _)); exact BK101.out) hb⟩
       have n4_ : Aside0 (w20.heap[gb102]? = some (.cells #[.int .i64 n1, .slice A1 l1.length c1] 26 (0, 0))) := ⟨blk_below (by (with_reducible repeat (first | refine blk_drewN ?_ _ | refine blk_drew ?_ | refine blk_alloc ?_ _)); exact BK102.out) hb⟩
       have n5_ : Aside0 (Kd.R (Kd.int .u64) 82 w20 w5.heap.size (fun _ => True) (.slice (some ⟨gu, 0, none⟩) (l0 ++ [theMark]).length capu) (l0 ++ [theMark])) := ⟨Kd.R_below (by (with_reducible repeat (first | apply Kd.R_alloc | apply Kd.R_drewN | apply Kd.R_drew)); exact HTu.out) hb⟩
       have n6_ : Aside0 (w20.heap[w6.heap.size]? = some (.cells #[.int .i64 n0, .slice (some ⟨gu, 0, none⟩) l0.length capu] 26 (0, 0))) := ⟨blk_below (by (with_reducible repeat (first | refine blk_drewN ?_ _ | refine blk_drew ?_ | refine blk_alloc ?_ _)); exact Ku.out) hb⟩
       have n7_ : Aside0 (Kd.R (Kd.int .u64) 82 w20 (w6.alloc (.cells #[.int .i64 n0, .slice (some ⟨gu, 0, none⟩) l0.length capu] 26 (0, 0))).heap.size (fun _ => True) (.slice (some ⟨gv, 0, none⟩) (l1 ++ [theMark]).length capv) (l1 ++ [theMark])) := ⟨Kd.R_below (by (with_reducible repeat (first | apply Kd.R_alloc | apply Kd.R_drewN | apply Kd.R_drew)); exact HTv.out) hb⟩
       have n8_ : Aside0 (w20.heap[w7.heap.size]? = some (.cells #[.int .i64 n1, .slice (some ⟨gv, 0, none⟩) l1.length capv] 26 (0, 0))) := ⟨blk_below (by (with_reducible repeat (first | refine blk_drewN ?_ _ | refine blk_drew ?_ | refine blk_alloc ?_ _)); exact Kv.out) hb⟩
       have n9_ : Aside0 (Kd.R (Kd.int .u64) 82 w20 (w7.alloc (.cells #[.int .i64 n1, .slice (some ⟨gv, 0, none⟩) l1.length capv] 26 (0, 0))).heap.size (fun _ => True) (.slice AHc ws1.length cHc) ws1) := ⟨Kd.R_below (by (with_reducible repeat (first | apply Kd.R_alloc | apply Kd.R_drewN | apply Kd.R_drew)); exact Hc.out) hb⟩
       have n10_ : Aside0 (w20.heap[w8.heap.size]? = some (.cells #[.int .i64 s1, .slice AHc ws1.length cHc] 26 (0, 0))) := ⟨blk_below (by (with_reducible repeat (first | refine blk_drewN ?_ _ | refine blk_drew ?_ | refine blk_alloc ?_ _)); exact Kc.out) hb⟩
       have n11_ : Aside0 (Kd.R (Kd.int .u64) 82 w20 (w8.alloc (.cells #[.int .i64 s1, .slice AHc ws1.length cHc] 26 (0, 0))).heap.size (fun _ => True) (.slice AHd ws1.length cHd) ws1) := ⟨Kd.R_below (by (with_reducible repeat (first | apply Kd.R_alloc | apply Kd.R_drewN | apply Kd.R_drew)); exact Hd.out) hb⟩
       have n12_ : Aside0 (w20.heap[w9.heap.size]? = some (.cells #[.int .i64 s1, .slice AHd ws1.length cHd] 26 (0, 0))) := ⟨blk_below (by (with_reducible repeat (first | refine blk_drewN ?_ _ | refine blk_drew ?_ | refine blk_alloc ?_ _)); exact Kd_.out) hb⟩
       have n13_ : Aside0 (Kd.R (Kd.int .u64) 82 w20 (w9.alloc (.cells #[.int .i64 s1, .slice AHd ws1.length cHd] 26 (0, 0))).heap.size (fun _ => True) (.slice AHg ws2.length cHg) ws2) := ⟨Kd.R_below (by (with_reducible repeat (first | apply Kd.R_alloc | apply Kd.R_drewN | apply Kd.R_drew)); exact Hg.out) hb⟩
       have n14_ : Aside0 (w20.heap[w10.heap.size]? = some (.cells #[.int .i64 s2, .slice AHg ws2.length cHg] 26 (0, 0))) := ⟨blk_below (by (with_reducible repeat (first | refine blk_drewN ?_ _ | refine blk_drew ?_ | refine blk_alloc ?_ _)); exact Kg.out) hb⟩
       have n15_ : Aside0 (Kd.R (Kd.int .u64) 82 w20 (w10.alloc (.cells #[.int .i64 s2, .slice AHg ws2.length cHg] 26 (0, 0))).heap.size (fun _ => True) (.slice AHi ws2.length cHi) ws2) := ⟨Kd.R_below (by (with_reducible repeat (first | apply Kd.R_alloc | apply Kd.R_drewN | apply Kd.R_drew)); exact Hi.out) hb⟩
       have n16_ : Aside0 (w20.heap[w11.heap.size]? = some (.cells #[.int .i64 s2, .slice AHi ws2.length cHi] 26 (0, 0))) := ⟨blk_below (by (with_reducible repeat (first | refine blk_drewN ?_ _ | refine blk_drew ?_ | refine blk_alloc ?_ _)); exact Ki.out) hb⟩
       have n17_ : Aside0 (Kd.R (Kd.int .u64) 82 w20 (w11.alloc (.cells #[.int .i64 s2, .slice AHi ws2.length cHi] 26 (0, 0))).heap.size (fun _ => True) (.slice AHk ws3.length cHk) ws3) := ⟨Kd.R_below (by (with_reducible repeat (first | apply Kd.R_alloc | apply Kd.R_drewN | apply Kd.R_drew)); exact Hk.out) hb⟩
       have n18_ : Aside0 (w20.heap[w12.heap.size]? = some (.cells #[.int .i64 s3, .slice AHk ws3.length cHk] 26 (0, 0))) := ⟨blk_below (by (with_reducible repeat (first | refine blk_drewN ?_ _ | refine blk_drew ?_ | refine blk_alloc ?_ _)); exact Kk.out) hb⟩
       have n19_ : Aside0 (Kd.R (Kd.int .u64) 82 w20 (w12.alloc (.cells #[.int .i64 s3, .slice AHk ws3.length cHk] 26 (0, 0))).heap.size (fun _ => True) (.slice AHm ws3.length cHm) ws3) := ⟨Kd.R_below (by (with_reducible repeat (first | apply Kd.R_alloc | apply Kd.R_drewN | apply Kd.R_drew)); exact Hm.out) hb⟩
       have n20_ : Aside0 (w20.heap[w13.heap.size]? = some (.cells #[.int .i64 s3, .slice AHm ws3.length cHm] 26 (0, 0))) := ⟨blk_below (by (with_reducible repeat (first | refine blk_drewN ?_ _ | refine blk_drew ?_ | refine blk_alloc ?_ _)); exact Km.out) hb⟩
       clear HB HC HC2 BK101 BK102 HTu Ku HTv Kv Hc Kc Hd Kd_ Hg Kg Hi Ki Hk Kk Hm Km
       have HB := n0_
       have HC := n1_
       have HC2 := n2_
       have BK101 := n3_
       have BK102 := n4_
       have HTu := n5_
       have Ku := n6_
       have HTv := n7_
       have Kv := n8_
       have Hc := n9_
       have Kc := n10_
       have Hd := n11_
       have Kd_ := n12_
       have Hg := n13_
       have Kg := n14_
       have Hi := n15_
       have Ki := n16_
       have Hk := n17_
       have Kk := n18_
       have Hm := n19_
       have Km := n20_
       clear n0_ n1_ n2_ n3_ n4_ n5_ n6_ n7_ n8_ n9_ n10_ n11_ n12_ n13_ n14_ n15_ n16_ n17_ n18_ n19_ n20_
       clear qKu0 zqKu0 qKu1 zqKu1 qKv0 zqKv0 qKv1 zqKv1
       have qKu0 := (blk_cell Ku.out 0).trans rfl
       have zqKu0 := blk_frozen Ku.out 0
       have qKu1 := (blk_cell Ku.out 1).trans rfl
       have zqKu1 := blk_frozen Ku.out 1
       have qKv0 := (blk_cell Kv.out 0).trans rfl
       have zqKv0 := blk_frozen Kv.out 0
       have qKv1 := (blk_cell Kv.out 1).trans rfl
       have zqKv1 := blk_frozen Kv.out 1
       have qBK1010 := (blk_cell BK101.out 0).trans rfl
       have zqBK1010 := blk_frozen BK101.out 0
       have qBK1011 := (blk_cell BK101.out 1).trans rfl
       have zqBK1011 := blk_frozen BK101.out 1
       have qBK1020 := (blk_cell BK102.out 0).trans rfl
       have zqBK1020 := blk_frozen BK102.out 0
       have qBK1021 := (blk_cell BK102.out 1).trans rfl
       have zqBK1021 := blk_frozen BK102.out 1
       clear hb))
  go_region_held3 (fun w' => w'.cell? ⟨w6.heap.size, 0, none⟩ = some (.int .i64 n0) ∧ w'.cell? ⟨w6.heap.size, 1, none⟩ = some (.slice (some ⟨gu, 0, none⟩) l0.length capu) ∧ w'.cell? ⟨w7.heap.size, 0, none⟩ = some (.int .i64 n1) ∧ w'.cell? ⟨w7.heap.size, 1, none⟩ = some (.slice (some ⟨gv, 0, none⟩) l1.length capv) ∧ w'.cell? ⟨gb101, 0, none⟩ = some (.int .i64 n0) ∧ w'.cell? ⟨gb101, 1, none⟩ = some (.slice A0 l0.length c0) ∧ w'.cell? ⟨gb102, 0, none⟩ = some (.int .i64 n1) ∧ w'.cell? ⟨gb102, 1, none⟩ = some (.slice A1 l1.length c1))
    (first | exact ⟨(blk_cell Ku.out 0).trans rfl, (blk_cell Ku.out 1).trans rfl, (blk_cell Kv.out 0).trans rfl, (blk_cell Kv.out 1).trans rfl, (blk_cell BK101.out 0).trans rfl, (blk_cell BK101.out 1).trans rfl, (blk_cell BK102.out 0).trans rfl, (blk_cell BK102.out 1).trans rfl⟩ | exact ⟨(blk_cell (blk_drew Ku.out) 0).trans rfl, (blk_cell (blk_drew Ku.out) 1).trans rfl, (blk_cell (blk_drew Kv.out) 0).trans rfl, (blk_cell (blk_drew Kv.out) 1).trans rfl, (blk_cell (blk_drew BK101.out) 0).trans rfl, (blk_cell (blk_drew BK101.out) 1).trans rfl, (blk_cell (blk_drew BK102.out) 0).trans rfl, (blk_cell (blk_drew BK102.out) 1).trans rfl⟩ | exact ⟨(blk_cell (blk_drewN Ku.out _) 0).trans rfl, (blk_cell (blk_drewN Ku.out _) 1).trans rfl, (blk_cell (blk_drewN Kv.out _) 0).trans rfl, (blk_cell (blk_drewN Kv.out _) 1).trans rfl, (blk_cell (blk_drewN BK101.out _) 0).trans rfl, (blk_cell (blk_drewN BK101.out _) 1).trans rfl, (blk_cell (blk_drewN BK102.out _) 0).trans rfl, (blk_cell (blk_drewN BK102.out _) 1).trans rfl⟩ | go_keep)
    (first
    | (go_at_call 38
       (with_reducible refine (bitset_Compare.calls k n0 _ _ l0 n1 _ _ l1 cc _ ?s1a ?s1b ?s2a ?s2b HQ.out).mono ?_)
       (case s1a => exact (wmarked_reads (by (with_reducible repeat (first | apply Kd.R_alloc | apply Kd.R_drewN | apply Kd.R_drew)); exact HTu.out)))
       (case s1b => exact (wmarked_fits HTu.out))
       (case s2a => exact (wmarked_reads (by (with_reducible repeat (first | apply Kd.R_alloc | apply Kd.R_drewN | apply Kd.R_drew)); exact HTv.out)))
       (case s2b => exact (wmarked_fits HTv.out))
       rintro e w21 ⟨rfl, hb⟩
       have n0_ : Aside0 (Below w.heap.size w w21) := ⟨below_step (by repeat (first | (with_reducible first | exact HB.out | apply below_alloc | apply pw_below_drewN | apply below_drew1) | exact HB.out)) hb⟩
       have n1_ : Aside0 (Kd.C (Kd.int .u64) w21 A0 l0.length l0) := ⟨Kd.C_below (by repeat (first | exact HC.out | (with_reducible refine Kd.C_alloc ?_ _) | (with_reducible refine Kd.C_drewN ?_ _) | (with_reducible refine Kd.C_drew ?_))) hb⟩
       have n2_ : Aside0 (Kd.C (Kd.int .u64) w21 A1 l1.length l1) := ⟨Kd.C_below (by repeat (first | exact HC2.out | (with_reducible refine Kd.C_alloc ?_ _) | (with_reducible refine Kd.C_drewN ?_ _) | (with_reducible refine Kd.C_drew ?_))) hb⟩
       have n3_ : Aside0 (w21.heap[gb101]? = some (.cells #[.int .i64 n0, .slice A0 l0.length c0] 26 (0, 0))) := ⟨blk_below (by (with_reducible repeat (first | refine blk_drewN ?_ _ | refine blk_drew ?_ | refine blk_alloc ?_ _)); exact BK101.out) hb⟩
       have n4_ : Aside0 (w21.heap[gb102]? = some (.cells #[.int .i64 n1, .slice A1 l1.length c1] 26 (0, 0))) := ⟨blk_below (by (with_reducible repeat (first | refine blk_drewN ?_ _ | refine blk_drew ?_ | refine blk_alloc ?_ _)); exact BK102.out) hb⟩
       have n5_ : Aside0 (Kd.R (Kd.int .u64) 82 w21 w5.heap.size (fun _ => True) (.slice (some ⟨gu, 0, none⟩) (l0 ++ [theMark]).length capu) (l0 ++ [theMark])) := ⟨Kd.R_below (by (with_reducible repeat (first | apply Kd.R_alloc | apply Kd.R_drewN | apply Kd.R_drew)); exact HTu.out) hb⟩
       have n6_ : Aside0 (w21.heap[w6.heap.size]? = some (.cells #[.int .i64 n0, .slice (some ⟨gu, 0, none⟩) l0.length capu] 26 (0, 0))) := ⟨blk_below (by (with_reducible repeat (first | refine blk_drewN ?_ _ | refine blk_drew ?_ | refine blk_alloc ?_ _)); exact Ku.out) hb⟩
       have n7_ : Aside0 (Kd.R (Kd.int .u64) 82 w21 (w6.alloc (.cells #[.int .i64 n0, .slice (some ⟨gu, 0, none⟩) l0.length capu] 26 (0, 0))).heap.size (fun _ => True) (.slice (some ⟨gv, 0, none⟩) (l1 ++ [theMark]).length capv) (l1 ++ [theMark])) := ⟨Kd.R_below (by (with_reducible repeat (first | apply Kd.R_alloc | apply Kd.R_drewN | apply Kd.R_drew)); exact HTv.out) hb⟩
       have n8_ : Aside0 (w21.heap[w7.heap.size]? = some (.cells #[.int .i64 n1, .slice (some ⟨gv, 0, none⟩) l1.length capv] 26 (0, 0))) := ⟨blk_below (by (with_reducible repeat (first | refine blk_drewN ?_ _ | refine blk_drew ?_ | refine blk_alloc ?_ _)); exact Kv.out) hb⟩
       have n9_ : Aside0 (Kd.R (Kd.int .u64) 82 w21 (w7.alloc (.cells #[.int .i64 n1, .slice (some ⟨gv, 0, none⟩) l1.length capv] 26 (0, 0))).heap.size (fun _ => True) (.slice AHc ws1.length cHc) ws1) := ⟨Kd.R_below (by (with_reducible repeat (first | apply Kd.R_alloc | apply Kd.R_drewN | apply Kd.R_drew)); exact Hc.out) hb⟩
       have n10_ : Aside0 (w21.heap[w8.heap.size]? = some (.cells #[.int .i64 s1, .slice AHc ws1.length cHc] 26 (0, 0))) := ⟨blk_below (by (with_reducible repeat (first | refine blk_drewN ?_ _ | refine blk_drew ?_ | refine blk_alloc ?_ _)); exact Kc.out) hb⟩
       have n11_ : Aside0 (Kd.R (Kd.int .u64) 82 w21 (w8.alloc (.cells #[.int .i64 s1, .slice AHc ws1.length cHc] 26 (0, 0))).heap.size (fun _ => True) (.slice AHd ws1.length cHd) ws1) := ⟨Kd.R_below (by (with_reducible repeat (first | apply Kd.R_alloc | apply Kd.R_drewN | apply Kd.R_drew)); exact Hd.out) hb⟩
       have n12_ : Aside0 (w21.heap[w9.heap.size]? = some (.cells #[.int .i64 s1, .slice AHd ws1.length cHd] 26 (0, 0))) := ⟨blk_below (by (with_reducible repeat (first | refine blk_drewN ?_ _ | refine blk_drew ?_ | refine blk_alloc ?_ _)); exact Kd_.out) hb⟩
       have n13_ : Aside0 (Kd.R (Kd.int .u64) 82 w21 (w9.alloc (.cells #[.int .i64 s1, .slice AHd ws1.length cHd] 26 (0, 0))).heap.size (fun _ => True) (.slice AHg ws2.length cHg) ws2) := ⟨Kd.R_below (by (with_reducible repeat (first | apply Kd.R_alloc | apply Kd.R_drewN | apply Kd.R_drew)); exact Hg.out) hb⟩
       have n14_ : Aside0 (w21.heap[w10.heap.size]? = some (.cells #[.int .i64 s2, .slice AHg ws2.length cHg] 26 (0, 0))) := ⟨blk_below (by (with_reducible repeat (first | refine blk_drewN ?_ _ | refine blk_drew ?_ | refine blk_alloc ?_ _)); exact Kg.out) hb⟩
       have n15_ : Aside0 (Kd.R (Kd.int .u64) 82 w21 (w10.alloc (.cells #[.int .i64 s2, .slice AHg ws2.length cHg] 26 (0, 0))).heap.size (fun _ => True) (.slice AHi ws2.length cHi) ws2) := ⟨Kd.R_below (by (with_reducible repeat (first | apply Kd.R_alloc | apply Kd.R_drewN | apply Kd.R_drew)); exact Hi.out) hb⟩
       have n16_ : Aside0 (w21.heap[w11.heap.size]? = some (.cells #[.int .i64 s2, .slice AHi ws2.length cHi] 26 (0, 0))) := ⟨blk_below (by (with_reducible repeat (first | refine blk_drewN ?_ _ | refine blk_drew ?_ | refine blk_alloc ?_ _)); exact Ki.out) hb⟩
       have n17_ : Aside0 (Kd.R (Kd.int .u64) 82 w21 (w11.alloc (.cells #[.int .i64 s2, .slice AHi ws2.length cHi] 26 (0, 0))).heap.size (fun _ => True) (.slice AHk ws3.length cHk) ws3) := ⟨Kd.R_below (by (with_reducible repeat (first | apply Kd.R_alloc | apply Kd.R_drewN | apply Kd.R_drew)); exact Hk.out) hb⟩
       have n18_ : Aside0 (w21.heap[w12.heap.size]? = some (.cells #[.int .i64 s3, .slice AHk ws3.length cHk] 26 (0, 0))) := ⟨blk_below (by (with_reducible repeat (first | refine blk_drewN ?_ _ | refine blk_drew ?_ | refine blk_alloc ?_ _)); exact Kk.out) hb⟩
       have n19_ : Aside0 (Kd.R (Kd.int .u64) 82 w21 (w12.alloc (.cells #[.int .i64 s3, .slice AHk ws3.length cHk] 26 (0, 0))).heap.size (fun _ => True) (.slice AHm ws3.length cHm) ws3) := ⟨Kd.R_below (by (with_reducible repeat (first | apply Kd.R_alloc | apply Kd.R_drewN | apply Kd.R_drew)); exact Hm.out) hb⟩
       have n20_ : Aside0 (w21.heap[w13.heap.size]? = some (.cells #[.int .i64 s3, .slice AHm ws3.length cHm] 26 (0, 0))) := ⟨blk_below (by (with_reducible repeat (first | refine blk_drewN ?_ _ | refine blk_drew ?_ | refine blk_alloc ?_ _)); exact Km.out) hb⟩
       clear HB HC HC2 BK101 BK102 HTu Ku HTv Kv Hc Kc Hd Kd_ Hg Kg Hi Ki Hk Kk Hm Km
       have HB := n0_
       have HC := n1_
       have HC2 := n2_
       have BK101 := n3_
       have BK102 := n4_
       have HTu := n5_
       have Ku := n6_
       have HTv := n7_
       have Kv := n8_
       have Hc := n9_
       have Kc := n10_
       have Hd := n11_
       have Kd_ := n12_
       have Hg := n13_
       have Kg := n14_
       have Hi := n15_
       have Ki := n16_
       have Hk := n17_
       have Kk := n18_
       have Hm := n19_
       have Km := n20_
       clear n0_ n1_ n2_ n3_ n4_ n5_ n6_ n7_ n8_ n9_ n10_ n11_ n12_ n13_ n14_ n15_ n16_ n17_ n18_ n19_ n20_
       clear hb)
    | (go_at_call 48
       (with_reducible refine (sloperef3_Compare.calls k n0 _ _ l0 n1 _ _ l1 cc _ ?s1a ?s1b ?s2a ?s2b HQ2.out).mono ?_)
       (case s1a => exact (by repeat (first | exact HC.out | (with_reducible refine Kd.C_alloc ?_ _) | (with_reducible refine Kd.C_drewN ?_ _) | (with_reducible refine Kd.C_drew ?_))))
       (case s1b => exact (hc_HC))
       (case s2a => exact (by repeat (first | exact HC2.out | (with_reducible refine Kd.C_alloc ?_ _) | (with_reducible refine Kd.C_drewN ?_ _) | (with_reducible refine Kd.C_drew ?_))))
       (case s2b => exact (hc_HC2))
       rintro e w22 ⟨rfl, hb⟩
       have n0_ : Aside0 (Below w.heap.size w w22) := ⟨below_step (by repeat (first | (with_reducible first | exact HB.out | apply below_alloc | apply pw_below_drewN | apply below_drew1) | exact HB.out)) hb⟩
       have n1_ : Aside0 (Kd.C (Kd.int .u64) w22 A0 l0.length l0) := ⟨Kd.C_below (by repeat (first | exact HC.out | (with_reducible refine Kd.C_alloc ?_ _) | (with_reducible refine Kd.C_drewN ?_ _) | (with_reducible refine Kd.C_drew ?_))) hb⟩
       have n2_ : Aside0 (Kd.C (Kd.int .u64) w22 A1 l1.length l1) := ⟨Kd.C_below (by repeat (first | exact HC2.out | (with_reducible refine Kd.C_alloc ?_ _) | (with_reducible refine Kd.C_drewN ?_ _) | (with_reducible refine Kd.C_drew ?_))) hb⟩
       have n3_ : Aside0 (w22.heap[gb101]? = some (.cells #[.int .i64 n0, .slice A0 l0.length c0] 26 (0, 0))) := ⟨blk_below (by (with_reducible repeat (first | refine blk_drewN ?_ _ | refine blk_drew ?_ | refine blk_alloc ?_ _)); exact BK101.out) hb⟩
       have n4_ : Aside0 (w22.heap[gb102]? = some (.cells #[.int .i64 n1, .slice A1 l1.length c1] 26 (0, 0))) := ⟨blk_below (by (with_reducible repeat (first | refine blk_drewN ?_ _ | refine blk_drew ?_ | refine blk_alloc ?_ _)); exact BK102.out) hb⟩
       have n5_ : Aside0 (Kd.R (Kd.int .u64) 82 w22 w5.heap.size (fun _ => True) (.slice (some ⟨gu, 0, none⟩) (l0 ++ [theMark]).length capu) (l0 ++ [theMark])) := ⟨Kd.R_below (by (with_reducible repeat (first | apply Kd.R_alloc | apply Kd.R_drewN | apply Kd.R_drew)); exact HTu.out) hb⟩
       have n6_ : Aside0 (w22.heap[w6.heap.size]? = some (.cells #[.int .i64 n0, .slice (some ⟨gu, 0, none⟩) l0.length capu] 26 (0, 0))) := ⟨blk_below (by (with_reducible repeat (first | refine blk_drewN ?_ _ | refine blk_drew ?_ | refine blk_alloc ?_ _)); exact Ku.out) hb⟩
       have n7_ : Aside0 (Kd.R (Kd.int .u64) 82 w22 (w6.alloc (.cells #[.int .i64 n0, .slice (some ⟨gu, 0, none⟩) l0.length capu] 26 (0, 0))).heap.size (fun _ => True) (.slice (some ⟨gv, 0, none⟩) (l1 ++ [theMark]).length capv) (l1 ++ [theMark])) := ⟨Kd.R_below (by (with_reducible repeat (first | apply Kd.R_alloc | apply Kd.R_drewN | apply Kd.R_drew)); exact HTv.out) hb⟩
       have n8_ : Aside0 (w22.heap[w7.heap.size]? = some (.cells #[.int .i64 n1, .slice (some ⟨gv, 0, none⟩) l1.length capv] 26 (0, 0))) := ⟨blk_below (by (with_reducible repeat (first | refine blk_drewN ?_ _ | refine blk_drew ?_ | refine blk_alloc ?_ _)); exact Kv.out) hb⟩
       have n9_ : Aside0 (Kd.R (Kd.int .u64) 82 w22 (w7.alloc (.cells #[.int .i64 n1, .slice (some ⟨gv, 0, none⟩) l1.length capv] 26 (0, 0))).heap.size (fun _ => True) (.slice AHc ws1.length cHc) ws1) := ⟨Kd.R_below (by (with_reducible repeat (first | apply Kd.R_alloc | apply Kd.R_drewN | apply Kd.R_drew)); exact Hc.out) hb⟩
       have n10_ : Aside0 (w22.heap[w8.heap.size]? = some (.cells #[.int .i64 s1, .slice AHc ws1.length cHc] 26 (0, 0))) := ⟨blk_below (by (with_reducible repeat (first | refine blk_drewN ?_ _ | refine blk_drew ?_ | refine blk_alloc ?_ _)); exact Kc.out) hb⟩
       have n11_ : Aside0 (Kd.R (Kd.int .u64) 82 w22 (w8.alloc (.cells #[.int .i64 s1, .slice AHc ws1.length cHc] 26 (0, 0))).heap.size (fun _ => True) (.slice AHd ws1.length cHd) ws1) := ⟨Kd.R_below (by (with_reducible repeat (first | apply Kd.R_alloc | apply Kd.R_drewN | apply Kd.R_drew)); exact Hd.out) hb⟩
       have n12_ : Aside0 (w22.heap[w9.heap.size]? = some (.cells #[.int .i64 s1, .slice AHd ws1.length cHd] 26 (0, 0))) := ⟨blk_below (by (with_reducible repeat (first | refine blk_drewN ?_ _ | refine blk_drew ?_ | refine blk_alloc ?_ _)); exact Kd_.out) hb⟩
       have n13_ : Aside0 (Kd.R (Kd.int .u64) 82 w22 (w9.alloc (.cells #[.int .i64 s1, .slice AHd ws1.length cHd] 26 (0, 0))).heap.size (fun _ => True) (.slice AHg ws2.length cHg) ws2) := ⟨Kd.R_below (by (with_reducible repeat (first | apply Kd.R_alloc | apply Kd.R_drewN | apply Kd.R_drew)); exact Hg.out) hb⟩
       have n14_ : Aside0 (w22.heap[w10.heap.size]? = some (.cells #[.int .i64 s2, .slice AHg ws2.length cHg] 26 (0, 0))) := ⟨blk_below (by (with_reducible repeat (first | refine blk_drewN ?_ _ | refine blk_drew ?_ | refine blk_alloc ?_ _)); exact Kg.out) hb⟩
       have n15_ : Aside0 (Kd.R (Kd.int .u64) 82 w22 (w10.alloc (.cells #[.int .i64 s2, .slice AHg ws2.length cHg] 26 (0, 0))).heap.size (fun _ => True) (.slice AHi ws2.length cHi) ws2) := ⟨Kd.R_below (by (with_reducible repeat (first | apply Kd.R_alloc | apply Kd.R_drewN | apply Kd.R_drew)); exact Hi.out) hb⟩
       have n16_ : Aside0 (w22.heap[w11.heap.size]? = some (.cells #[.int .i64 s2, .slice AHi ws2.length cHi] 26 (0, 0))) := ⟨blk_below (by (with_reducible repeat (first | refine blk_drewN ?_ _ | refine blk_drew ?_ | refine blk_alloc ?_ _)); exact Ki.out) hb⟩
       have n17_ : Aside0 (Kd.R (Kd.int .u64) 82 w22 (w11.alloc (.cells #[.int .i64 s2, .slice AHi ws2.length cHi] 26 (0, 0))).heap.size (fun _ => True) (.slice AHk ws3.length cHk) ws3) := ⟨Kd.R_below (by (with_reducible repeat (first | apply Kd.R_alloc | apply Kd.R_drewN | apply Kd.R_drew)); exact Hk.out) hb⟩
       have n18_ : Aside0 (w22.heap[w12.heap.size]? = some (.cells #[.int .i64 s3, .slice AHk ws3.length cHk] 26 (0, 0))) := ⟨blk_below (by (with_reducible repeat (first | refine blk_drewN ?_ _ | refine blk_drew ?_ | refine blk_alloc ?_ _)); exact Kk.out) hb⟩
       have n19_ : Aside0 (Kd.R (Kd.int .u64) 82 w22 (w12.alloc (.cells #[.int .i64 s3, .slice AHk ws3.length cHk] 26 (0, 0))).heap.size (fun _ => True) (.slice AHm ws3.length cHm) ws3) := ⟨Kd.R_below (by (with_reducible repeat (first | apply Kd.R_alloc | apply Kd.R_drewN | apply Kd.R_drew)); exact Hm.out) hb⟩
       have n20_ : Aside0 (w22.heap[w13.heap.size]? = some (.cells #[.int .i64 s3, .slice AHm ws3.length cHm] 26 (0, 0))) := ⟨blk_below (by (with_reducible repeat (first | refine blk_drewN ?_ _ | refine blk_drew ?_ | refine blk_alloc ?_ _)); exact Km.out) hb⟩
       clear HB HC HC2 BK101 BK102 HTu Ku HTv Kv Hc Kc Hd Kd_ Hg Kg Hi Ki Hk Kk Hm Km
       have HB := n0_
       have HC := n1_
       have HC2 := n2_
       have BK101 := n3_
       have BK102 := n4_
       have HTu := n5_
       have Ku := n6_
       have HTv := n7_
       have Kv := n8_
       have Hc := n9_
       have Kc := n10_
       have Hd := n11_
       have Kd_ := n12_
       have Hg := n13_
       have Kg := n14_
       have Hi := n15_
       have Ki := n16_
       have Hk := n17_
       have Kk := n18_
       have Hm := n19_
       have Km := n20_
       clear n0_ n1_ n2_ n3_ n4_ n5_ n6_ n7_ n8_ n9_ n10_ n11_ n12_ n13_ n14_ n15_ n16_ n17_ n18_ n19_ n20_
       clear hb)
    | (go_at_call 25
       (with_reducible refine (kept_marked n0 gu capu l0 A0 c0 _ ?s1 ?s2 ?s3 hc_HC).mono ?_)
       (case s1 => exact ((Kd.R_reads' (by (with_reducible repeat (first | apply Kd.R_alloc | apply Kd.R_drewN | apply Kd.R_drew)); exact HTu.out)).2.2))
       (case s2 => exact ((Kd.R_reads' HTu.out).2.1))
       (case s3 => exact (by repeat (first | exact HC.out | (with_reducible refine Kd.C_alloc ?_ _) | (with_reducible refine Kd.C_drewN ?_ _) | (with_reducible refine Kd.C_drew ?_))))
       rintro e w23 ⟨rfl, hb⟩
       have n0_ : Aside0 (Below w.heap.size w w23) := ⟨below_step (by repeat (first | (with_reducible first | exact HB.out | apply below_alloc | apply pw_below_drewN | apply below_drew1) | exact HB.out)) hb⟩
       have n1_ : Aside0 (Kd.C (Kd.int .u64) w23 A0 l0.length l0) := ⟨Kd.C_below (by repeat (first | exact HC.out | (with_reducible refine Kd.C_alloc ?_ _) | (with_reducible refine Kd.C_drewN ?_ _) | (with_reducible refine Kd.C_drew ?_))) hb⟩
       have n2_ : Aside0 (Kd.C (Kd.int .u64) w23 A1 l1.length l1) := ⟨Kd.C_below (by repeat (first | exact HC2.out | (with_reducible refine Kd.C_alloc ?_ _) | (with_reducible refine Kd.C_drewN ?_ _) | (with_reducible refine Kd.C_drew ?_))) hb⟩
       have n3_ : Aside0 (w23.heap[gb101]? = some (.cells #[.int .i64 n0, .slice A0 l0.length c0] 26 (0, 0))) := ⟨blk_below (by (with_reducible repeat (first | refine blk_drewN ?_ _ | refine blk_drew ?_ | refine blk_alloc ?_ _)); exact BK101.out) hb⟩
       have n4_ : Aside0 (w23.heap[gb102]? = some (.cells #[.int .i64 n1, .slice A1 l1.length c1] 26 (0, 0))) := ⟨blk_below (by (with_reducible repeat (first | refine blk_drewN ?_ _ | refine blk_drew ?_ | refine blk_alloc ?_ _)); exact BK102.out) hb⟩
       have n5_ : Aside0 (Kd.R (Kd.int .u64) 82 w23 w5.heap.size (fun _ => True) (.slice (some ⟨gu, 0, none⟩) (l0 ++ [theMark]).length capu) (l0 ++ [theMark])) := ⟨Kd.R_below (by (with_reducible repeat (first | apply Kd.R_alloc | apply Kd.R_drewN | apply Kd.R_drew)); exact HTu.out) hb⟩
       have n6_ : Aside0 (w23.heap[w6.heap.size]? = some (.cells #[.int .i64 n0, .slice (some ⟨gu, 0, none⟩) l0.length capu] 26 (0, 0))) := ⟨blk_below (by (with_reducible repeat (first | refine blk_drewN ?_ _ | refine blk_drew ?_ | refine blk_alloc ?_ _)); exact Ku.out) hb⟩
       have n7_ : Aside0 (Kd.R (Kd.int .u64) 82 w23 (w6.alloc (.cells #[.int .i64 n0, .slice (some ⟨gu, 0, none⟩) l0.length capu] 26 (0, 0))).heap.size (fun _ => True) (.slice (some ⟨gv, 0, none⟩) (l1 ++ [theMark]).length capv) (l1 ++ [theMark])) := ⟨Kd.R_below (by (with_reducible repeat (first | apply Kd.R_alloc | apply Kd.R_drewN | apply Kd.R_drew)); exact HTv.out) hb⟩
       have n8_ : Aside0 (w23.heap[w7.heap.size]? = some (.cells #[.int .i64 n1, .slice (some ⟨gv, 0, none⟩) l1.length capv] 26 (0, 0))) := ⟨blk_below (by (with_reducible repeat (first | refine blk_drewN ?_ _ | refine blk_drew ?_ | refine blk_alloc ?_ _)); exact Kv.out) hb⟩
       have n9_ : Aside0 (Kd.R (Kd.int .u64) 82 w23 (w7.alloc (.cells #[.int .i64 n1, .slice (some ⟨gv, 0, none⟩) l1.length capv] 26 (0, 0))).heap.size (fun _ => True) (.slice AHc ws1.length cHc) ws1) := ⟨Kd.R_below (by (with_reducible repeat (first | apply Kd.R_alloc | apply Kd.R_drewN | apply Kd.R_drew)); exact Hc.out) hb⟩
       have n10_ : Aside0 (w23.heap[w8.heap.size]? = some (.cells #[.int .i64 s1, .slice AHc ws1.length cHc] 26 (0, 0))) := ⟨blk_below (by (with_reducible repeat (first | refine blk_drewN ?_ _ | refine blk_drew ?_ | refine blk_alloc ?_ _)); exact Kc.out) hb⟩
       have n11_ : Aside0 (Kd.R (Kd.int .u64) 82 w23 (w8.alloc (.cells #[.int .i64 s1, .slice AHc ws1.length cHc] 26 (0, 0))).heap.size (fun _ => True) (.slice AHd ws1.length cHd) ws1) := ⟨Kd.R_below (by (with_reducible repeat (first | apply Kd.R_alloc | apply Kd.R_drewN | apply Kd.R_drew)); exact Hd.out) hb⟩
       have n12_ : Aside0 (w23.heap[w9.heap.size]? = some (.cells #[.int .i64 s1, .slice AHd ws1.length cHd] 26 (0, 0))) := ⟨blk_below (by (with_reducible repeat (first | refine blk_drewN ?_ _ | refine blk_drew ?_ | refine blk_alloc ?_ _)); exact Kd_.out) hb⟩
       have n13_ : Aside0 (Kd.R (Kd.int .u64) 82 w23 (w9.alloc (.cells #[.int .i64 s1, .slice AHd ws1.length cHd] 26 (0, 0))).heap.size (fun _ => True) (.slice AHg ws2.length cHg) ws2) := ⟨Kd.R_below (by (with_reducible repeat (first | apply Kd.R_alloc | apply Kd.R_drewN | apply Kd.R_drew)); exact Hg.out) hb⟩
       have n14_ : Aside0 (w23.heap[w10.heap.size]? = some (.cells #[.int .i64 s2, .slice AHg ws2.length cHg] 26 (0, 0))) := ⟨blk_below (by (with_reducible repeat (first | refine blk_drewN ?_ _ | refine blk_drew ?_ | refine blk_alloc ?_ _)); exact Kg.out) hb⟩
       have n15_ : Aside0 (Kd.R (Kd.int .u64) 82 w23 (w10.alloc (.cells #[.int .i64 s2, .slice AHg ws2.length cHg] 26 (0, 0))).heap.size (fun _ => True) (.slice AHi ws2.length cHi) ws2) := ⟨Kd.R_below (by (with_reducible repeat (first | apply Kd.R_alloc | apply Kd.R_drewN | apply Kd.R_drew)); exact Hi.out) hb⟩
       have n16_ : Aside0 (w23.heap[w11.heap.size]? = some (.cells #[.int .i64 s2, .slice AHi ws2.length cHi] 26 (0, 0))) := ⟨blk_below (by (with_reducible repeat (first | refine blk_drewN ?_ _ | refine blk_drew ?_ | refine blk_alloc ?_ _)); exact Ki.out) hb⟩
       have n17_ : Aside0 (Kd.R (Kd.int .u64) 82 w23 (w11.alloc (.cells #[.int .i64 s2, .slice AHi ws2.length cHi] 26 (0, 0))).heap.size (fun _ => True) (.slice AHk ws3.length cHk) ws3) := ⟨Kd.R_below (by (with_reducible repeat (first | apply Kd.R_alloc | apply Kd.R_drewN | apply Kd.R_drew)); exact Hk.out) hb⟩
       have n18_ : Aside0 (w23.heap[w12.heap.size]? = some (.cells #[.int .i64 s3, .slice AHk ws3.length cHk] 26 (0, 0))) := ⟨blk_below (by (with_reducible repeat (first | refine blk_drewN ?_ _ | refine blk_drew ?_ | refine blk_alloc ?_ _)); exact Kk.out) hb⟩
       have n19_ : Aside0 (Kd.R (Kd.int .u64) 82 w23 (w12.alloc (.cells #[.int .i64 s3, .slice AHk ws3.length cHk] 26 (0, 0))).heap.size (fun _ => True) (.slice AHm ws3.length cHm) ws3) := ⟨Kd.R_below (by (with_reducible repeat (first | apply Kd.R_alloc | apply Kd.R_drewN | apply Kd.R_drew)); exact Hm.out) hb⟩
       have n20_ : Aside0 (w23.heap[w13.heap.size]? = some (.cells #[.int .i64 s3, .slice AHm ws3.length cHm] 26 (0, 0))) := ⟨blk_below (by (with_reducible repeat (first | refine blk_drewN ?_ _ | refine blk_drew ?_ | refine blk_alloc ?_ _)); exact Km.out) hb⟩
       clear HB HC HC2 BK101 BK102 HTu Ku HTv Kv Hc Kc Hd Kd_ Hg Kg Hi Ki Hk Kk Hm Km
       have HB := n0_
       have HC := n1_
       have HC2 := n2_
       have BK101 := n3_
       have BK102 := n4_
       have HTu := n5_
       have Ku := n6_
       have HTv := n7_
       have Kv := n8_
       have Hc := n9_
       have Kc := n10_
       have Hd := n11_
       have Kd_ := n12_
       have Hg := n13_
       have Kg := n14_
       have Hi := n15_
       have Ki := n16_
       have Hk := n17_
       have Kk := n18_
       have Hm := n19_
       have Km := n20_
       clear n0_ n1_ n2_ n3_ n4_ n5_ n6_ n7_ n8_ n9_ n10_ n11_ n12_ n13_ n14_ n15_ n16_ n17_ n18_ n19_ n20_
       clear hb)
    | (go_at_call 25
       (with_reducible refine (kept_marked n1 gv capv l1 A1 c1 _ ?s1 ?s2 ?s3 hc_HC2).mono ?_)
       (case s1 => exact ((Kd.R_reads' (by (with_reducible repeat (first | apply Kd.R_alloc | apply Kd.R_drewN | apply Kd.R_drew)); exact HTv.out)).2.2))
       (case s2 => exact ((Kd.R_reads' HTv.out).2.1))
       (case s3 => exact (by repeat (first | exact HC2.out | (with_reducible refine Kd.C_alloc ?_ _) | (with_reducible refine Kd.C_drewN ?_ _) | (with_reducible refine Kd.C_drew ?_))))
       rintro e w24 ⟨rfl, hb⟩
       have n0_ : Aside0 (Below w.heap.size w w24) := ⟨below_step (by repeat (first | (with_reducible first | exact HB.out | apply below_alloc | apply pw_below_drewN | apply below_drew1) | exact HB.out)) hb⟩
       have n1_ : Aside0 (Kd.C (Kd.int .u64) w24 A0 l0.length l0) := ⟨Kd.C_below (by repeat (first | exact HC.out | (with_reducible refine Kd.C_alloc ?_ _) | (with_reducible refine Kd.C_drewN ?_ _) | (with_reducible refine Kd.C_drew ?_))) hb⟩
       have n2_ : Aside0 (Kd.C (Kd.int .u64) w24 A1 l1.length l1) := ⟨Kd.C_below (by repeat (first | exact HC2.out | (with_reducible refine Kd.C_alloc ?_ _) | (with_reducible refine Kd.C_drewN ?_ _) | (with_reducible refine Kd.C_drew ?_))) hb⟩
       have n3_ : Aside0 (w24.heap[gb101]? = some (.cells #[.int .i64 n0, .slice A0 l0.length c0] 26 (0, 0))) := ⟨blk_below (by (with_reducible repeat (first | refine blk_drewN ?_ _ | refine blk_drew ?_ | refine blk_alloc ?_ _)); exact BK101.out) hb⟩
       have n4_ : Aside0 (w24.heap[gb102]? = some (.cells #[.int .i64 n1, .slice A1 l1.length c1] 26 (0, 0))) := ⟨blk_below (by (with_reducible repeat (first | refine blk_drewN ?_ _ | refine blk_drew ?_ | refine blk_alloc ?_ _)); exact BK102.out) hb⟩
       have n5_ : Aside0 (Kd.R (Kd.int .u64) 82 w24 w5.heap.size (fun _ => True) (.slice (some ⟨gu, 0, none⟩) (l0 ++ [theMark]).length capu) (l0 ++ [theMark])) := ⟨Kd.R_below (by (with_reducible repeat (first | apply Kd.R_alloc | apply Kd.R_drewN | apply Kd.R_drew)); exact HTu.out) hb⟩
       have n6_ : Aside0 (w24.heap[w6.heap.size]? = some (.cells #[.int .i64 n0, .slice (some ⟨gu, 0, none⟩) l0.length capu] 26 (0, 0))) := ⟨blk_below (by (with_reducible repeat (first | refine blk_drewN ?_ _ | refine blk_drew ?_ | refine blk_alloc ?_ _)); exact Ku.out) hb⟩
       have n7_ : Aside0 (Kd.R (Kd.int .u64) 82 w24 (w6.alloc (.cells #[.int .i64 n0, .slice (some ⟨gu, 0, none⟩) l0.length capu] 26 (0, 0))).heap.size (fun _ => True) (.slice (some ⟨gv, 0, none⟩) (l1 ++ [theMark]).length capv) (l1 ++ [theMark])) := ⟨Kd.R_below (by (with_reducible repeat (first | apply Kd.R_alloc | apply Kd.R_drewN | apply Kd.R_drew)); exact HTv.out) hb⟩
       have n8_ : Aside0 (w24.heap[w7.heap.size]? = some (.cells #[.int .i64 n1, .slice (some ⟨gv, 0, none⟩) l1.length capv] 26 (0, 0))) := ⟨blk_below (by (with_reducible repeat (first | refine blk_drewN ?_ _ | refine blk_drew ?_ | refine blk_alloc ?_ _)); exact Kv.out) hb⟩
       have n9_ : Aside0 (Kd.R (Kd.int .u64) 82 w24 (w7.alloc (.cells #[.int .i64 n1, .slice (some ⟨gv, 0, none⟩) l1.length capv] 26 (0, 0))).heap.size (fun _ => True) (.slice AHc ws1.length cHc) ws1) := ⟨Kd.R_below (by (with_reducible repeat (first | apply Kd.R_alloc | apply Kd.R_drewN | apply Kd.R_drew)); exact Hc.out) hb⟩
       have n10_ : Aside0 (w24.heap[w8.heap.size]? = some (.cells #[.int .i64 s1, .slice AHc ws1.length cHc] 26 (0, 0))) := ⟨blk_below (by (with_reducible repeat (first | refine blk_drewN ?_ _ | refine blk_drew ?_ | refine blk_alloc ?_ _)); exact Kc.out) hb⟩
       have n11_ : Aside0 (Kd.R (Kd.int .u64) 82 w24 (w8.alloc (.cells #[.int .i64 s1, .slice AHc ws1.length cHc] 26 (0, 0))).heap.size (fun _ => True) (.slice AHd ws1.length cHd) ws1) := ⟨Kd.R_below (by (with_reducible repeat (first | apply Kd.R_alloc | apply Kd.R_drewN | apply Kd.R_drew)); exact Hd.out) hb⟩
       have n12_ : Aside0 (w24.heap[w9.heap.size]? = some (.cells #[.int .i64 s1, .slice AHd ws1.length cHd] 26 (0, 0))) := ⟨blk_below (by (with_reducible repeat (first | refine blk_drewN ?_ _ | refine blk_drew ?_ | refine blk_alloc ?_ _)); exact Kd_.out) hb⟩
       have n13_ : Aside0 (Kd.R (Kd.int .u64) 82 w24 (w9.alloc (.cells #[.int .i64 s1, .slice AHd ws1.length cHd] 26 (0, 0))).heap.size (fun _ => True) (.slice AHg ws2.length cHg) ws2) := ⟨Kd.R_below (by (with_reducible repeat (first | apply Kd.R_alloc | apply Kd.R_drewN | apply Kd.R_drew)); exact Hg.out) hb⟩
       have n14_ : Aside0 (w24.heap[w10.heap.size]? = some (.cells #[.int .i64 s2, .slice AHg ws2.length cHg] 26 (0, 0))) := ⟨blk_below (by (with_reducible repeat (first | refine blk_drewN ?_ _ | refine blk_drew ?_ | refine blk_alloc ?_ _)); exact Kg.out) hb⟩
       have n15_ : Aside0 (Kd.R (Kd.int .u64) 82 w24 (w10.alloc (.cells #[.int .i64 s2, .slice AHg ws2.length cHg] 26 (0, 0))).heap.size (fun _ => True) (.slice AHi ws2.length cHi) ws2) := ⟨Kd.R_below (by (with_reducible repeat (first | apply Kd.R_alloc | apply Kd.R_drewN | apply Kd.R_drew)); exact Hi.out) hb⟩
       have n16_ : Aside0 (w24.heap[w11.heap.size]? = some (.cells #[.int .i64 s2, .slice AHi ws2.length cHi] 26 (0, 0))) := ⟨blk_below (by (with_reducible repeat (first | refine blk_drewN ?_ _ | refine blk_drew ?_ | refine blk_alloc ?_ _)); exact Ki.out) hb⟩
       have n17_ : Aside0 (Kd.R (Kd.int .u64) 82 w24 (w11.alloc (.cells #[.int .i64 s2, .slice AHi ws2.length cHi] 26 (0, 0))).heap.size (fun _ => True) (.slice AHk ws3.length cHk) ws3) := ⟨Kd.R_below (by (with_reducible repeat (first | apply Kd.R_alloc | apply Kd.R_drewN | apply Kd.R_drew)); exact Hk.out) hb⟩
       have n18_ : Aside0 (w24.heap[w12.heap.size]? = some (.cells #[.int .i64 s3, .slice AHk ws3.length cHk] 26 (0, 0))) := ⟨blk_below (by (with_reducible repeat (first | refine blk_drewN ?_ _ | refine blk_drew ?_ | refine blk_alloc ?_ _)); exact Kk.out) hb⟩
       have n19_ : Aside0 (Kd.R (Kd.int .u64) 82 w24 (w12.alloc (.cells #[.int .i64 s3, .slice AHk ws3.length cHk] 26 (0, 0))).heap.size (fun _ => True) (.slice AHm ws3.length cHm) ws3) := ⟨Kd.R_below (by (with_reducible repeat (first | apply Kd.R_alloc | apply Kd.R_drewN | apply Kd.R_drew)); exact Hm.out) hb⟩
       have n20_ : Aside0 (w24.heap[w13.heap.size]? = some (.cells #[.int .i64 s3, .slice AHm ws3.length cHm] 26 (0, 0))) := ⟨blk_below (by (with_reducible repeat (first | refine blk_drewN ?_ _ | refine blk_drew ?_ | refine blk_alloc ?_ _)); exact Km.out) hb⟩
       clear HB HC HC2 BK101 BK102 HTu Ku HTv Kv Hc Kc Hd Kd_ Hg Kg Hi Ki Hk Kk Hm Km
       have HB := n0_
       have HC := n1_
       have HC2 := n2_
       have BK101 := n3_
       have BK102 := n4_
       have HTu := n5_
       have Ku := n6_
       have HTv := n7_
       have Kv := n8_
       have Hc := n9_
       have Kc := n10_
       have Hd := n11_
       have Kd_ := n12_
       have Hg := n13_
       have Kg := n14_
       have Hi := n15_
       have Ki := n16_
       have Hk := n17_
       have Kk := n18_
       have Hm := n19_
       have Km := n20_
       clear n0_ n1_ n2_ n3_ n4_ n5_ n6_ n7_ n8_ n9_ n10_ n11_ n12_ n13_ n14_ n15_ n16_ n17_ n18_ n19_ n20_
       clear hb))
  go_wp2
  go_ret
  exact ⟨rfl, by repeat (first | (with_reducible first | exact HB.out | apply below_alloc | apply pw_below_drewN | apply below_drew1) | exact HB.out)⟩
end Go.Proofs.Ytjmkhdhffmlhiaa.PAll
end
section
namespace Go.Proofs.Ytjmkhdhffmlhiaa.PAll
open Go.ChangeShapes Go.WideShapes Go.RowKit Go.Proofs.YtjmkhdhffmlhiaaW.PrintWords
def light {H : Type} (P : Program) (t : TypeId) (d : DataW H) : Prop := (d.weights P t).all (· ≤ reachBytes) = true
structure Reads {α : Type} (P : Program) (t : TypeId) (d : Kd α) (good : α → Prop) : Prop where
  sz : d.sz = P.cellsOf t
  opens : ∀ {H : Type} {enc : TypeId × Value → H} {W : World} {base : Nat} {spare : Nat → Bool} {held : Bool} {fuel : Nat} {cs : List Value} {x : DataW H × List MemPlace},
    DataW.trod enc P W base spare held fuel t cs = some x → light P t x.1 → ∃ a, d.K W a cs ∧ good a
section
variable {α β : Type} {P : Program} {t e : TypeId} {d : Kd α} {good : α → Prop}
theorem Reads.int {k : IntKind} (ht : P.underlying t = some (.int k)) (hc : P.cellsOf t = 1) : Reads P t (Kd.int k) (fun n => (Lit.int k n).wf = true) :=
  ⟨hc.symm, fun h _ => by obtain ⟨n, rfl, _, hw⟩ := DataW.trod_int ht h; exact ⟨n, rfl, hw⟩⟩
theorem Reads.bool (ht : P.underlying t = some .bool) (hc : P.cellsOf t = 1) : Reads P t Kd.bool (fun _ => True) :=
  ⟨hc.symm, fun h _ => by obtain ⟨n, rfl, _⟩ := DataW.trod_bool ht h; exact ⟨n, rfl, trivial⟩⟩
theorem add_add_ (a : Addr) (i j : Nat) : (a.add i).add j = a.add (i + j) := by
  unfold Addr.add
  by_cases hi : i = 0 <;> by_cases hj : j = 0 <;> simp [hi, hj, Nat.add_assoc]
theorem exists_list (R : Nat → α → Prop) : ∀ n, (∀ i, i < n → ∃ a, R i a) → ∃ xs : List α, xs.length = n ∧ ∀ i (h : i < xs.length), R i xs[i] := by
  intro n
  induction n with
  | zero => intro _; exact ⟨[], rfl, fun i h => by cases h⟩
  | succ n ih =>
    intro h
    obtain ⟨xs, hl, hx⟩ := ih (fun i hi => h i (by omega))
    obtain ⟨a, ha⟩ := h n (by omega)
    refine ⟨xs ++ [a], by simp [hl], fun i hi => ?_⟩
    rcases Nat.lt_or_ge i xs.length with h1 | h1
    · rw [List.getElem_append_left h1]; exact hx i h1
    · have : i = n := by simp at hi; omega
      subst this
      rw [List.getElem_append_right h1]
      simpa [hl] using ha
theorem light_elem {H : Type} {elems spare : List (DataW H)} (ht : P.underlying t = some (.slice e)) (h : light P t (.slice elems spare)) : (elems.length + spare.length) * P.bytesOf e ≤ 140737488351232 ∧ ∀ y ∈ elems, light P e y := by
  unfold light at h
  simp only [DataW.weights, ht, List.all_cons, List.all_append, Bool.and_eq_true] at h
  refine ⟨by have := of_decide_eq_true h.1; simpa [reachBytes] using this, fun y hy => ?_⟩
  have h2 := h.2.1
  clear h
  induction elems with
  | nil => cases hy
  | cons z l ih =>
    simp only [DataW.weightsAll, List.all_append, Bool.and_eq_true] at h2
    rcases List.mem_cons.1 hy with rfl | h3
    · exact h2.1
    · exact ih h3 h2.2
theorem Reads.slice (ht : P.underlying t = some (.slice e)) (hc : P.cellsOf t = 1) (h : Reads P e d good) : Reads P t (Kd.slice e d) (fun xs => (∀ x ∈ xs, good x) ∧ xs.length * P.bytesOf e ≤ 140737488351232) := by
  refine ⟨hc.symm, fun {H enc W base spare held fuel cs x} hf hw => ?_⟩
  rcases Go.Deep.open_slice ht hf with ⟨rfl, hx⟩ | ⟨a, len, cap, m, n, D, Pl, rfl, hb, hl, hm, hmm, rfl, hel⟩
  · exact ⟨[], ⟨none, 0, rfl, Nat.le_refl _, Kd.C_nil d W⟩, ⟨fun _ h => (by cases h), by simp⟩⟩
  · obtain ⟨hlen, hlight⟩ := light_elem ht hw
    have hlm : len ≤ m := by rw [hmm]; split <;> omega
    obtain ⟨xs, hxl, hxs⟩ := exists_list (fun i y => ∃ cs', W.cells? base (Addr.add a (i * P.cellsOf e)) (P.cellsOf e) = some cs' ∧ d.K W y cs' ∧ good y) len (fun i hi => by
      obtain ⟨cs', h1, h2⟩ := hel i (by omega)
      obtain ⟨y, h3, h4⟩ := h.opens h2 (hlight _ (by simp only [List.mem_map, List.mem_range]; exact ⟨i, hi, rfl⟩))
      exact ⟨y, cs', h1, h3, h4⟩)
    subst hxl
    refine ⟨xs, ⟨some a, cap, rfl, hl, rfl, by unfold maxLen at hm; omega, fun _ => ⟨a, rfl, fun j p hj => ?_⟩⟩, ?_, ?_⟩
    · obtain ⟨hj', rfl⟩ := List.getElem?_eq_some_iff.1 hj
      obtain ⟨cs', h1, h2, _⟩ := hxs j hj'
      refine ⟨cs', d.K_len h2, h2, fun i u hu => ?_⟩
      obtain ⟨_, hl2, hc2⟩ := World.cells?_some h1
      have hi : i < P.cellsOf e := by rw [← hl2]; exact (List.getElem?_eq_some_iff.1 hu).1
      rw [h.sz, ← add_add_, hc2 i hi, hu]
    · intro x hx
      obtain ⟨j, hj, rfl⟩ := List.getElem_of_mem hx
      obtain ⟨_, _, _, hg⟩ := hxs j hj
      exact hg
    · refine Nat.le_trans (Nat.mul_le_mul_right _ ?_) hlen
      simp
theorem Reads.iso (h : Reads P t d good) (f : β → α) (g : α → β) (hg : ∀ a, f (g a) = a) : Reads P t (Kd.iso d f) (fun b => good (f b)) :=
  ⟨h.sz, fun hf hw => by
    obtain ⟨a, h1, h2⟩ := h.opens hf hw
    exact ⟨g a, by show d.K _ (f (g a)) _; rw [hg]; exact h1, by rw [hg]; exact h2⟩⟩
theorem light_each {H : Type} {fs : Array Field} {parts : List (DataW H)} (ht : P.underlying t = some (.struct fs)) (h : light P t (.agg parts)) : ∀ (i : Nat) (f : Field) (y : DataW H), fs[i]? = some f → parts[i]? = some y → light P f.type y := by
  unfold light at h
  simp only [DataW.weights, ht] at h
  intro i f y hf hy
  unfold light
  rw [List.all_eq_true] at h ⊢
  intro n hn
  exact h n (DataW.weights_mem_each (j := i) (t := f.type) (by simp [hf]) hy n hn)
theorem Reads.struct2 {f0 f1 : Field} {d1 : Kd β} {good1 : β → Prop} (ht : P.underlying t = some (.struct #[f0, f1])) (h0 : Reads P f0.type d good) (h1 : Reads P f1.type d1 good1) (o0 : f0.offset = 0) (o1 : f1.offset = P.cellsOf f0.type) (hc : P.cellsOf t = P.cellsOf f0.type + P.cellsOf f1.type) :
    Reads P t (Kd.pair d d1) (fun x => good x.1 ∧ good1 x.2) := by
  refine ⟨by show d.sz + d1.sz = _; rw [h0.sz, h1.sz, hc], fun {H enc W base spare held fuel cs x} hf hw => ?_⟩
  obtain ⟨y0, y1, n, rfl, hl, e0, e1⟩ := trod_struct2 ht hf
  obtain ⟨a, ha, ga⟩ := h0.opens e0 (light_each ht hw 0 f0 y0.1 rfl rfl)
  obtain ⟨b, hb, gb⟩ := h1.opens e1 (light_each ht hw 1 f1 y1.1 rfl rfl)
  rw [o0, List.drop_zero] at ha
  rw [o1, List.take_of_length_le (by rw [List.length_drop, hl, hc]; omega)] at hb
  exact ⟨(a, b), ⟨_, _, (List.take_append_drop _ _).symm, ha, hb⟩, ga, gb⟩
theorem Reads.param {H : Type} {enc : TypeId × Value → H} {W : World} {base : Nat} {spare : Nat → Bool} {held : Bool} {v : Value} {y : DataW H} {p : List MemPlace} (h : Reads P t d good) (hv : DataW.Trod enc P W base spare held t v y p)
    {ts : List TypeId} {ds : List (DataW H)} {j : Nat} (hsz : (DataW.weightsEach P ts ds).all (· ≤ reachBytes) = true) (ht : ts[j]? = some t) (hd : ds[j]? = some y) : ∃ a, d.K W a v.cells.toList ∧ good a := by
  obtain ⟨fuel, hf⟩ := hv
  refine h.opens hf ?_
  unfold light
  rw [List.all_eq_true] at hsz ⊢
  exact fun n hn => hsz n (DataW.weights_mem_each ht hd n hn)
end
end Go.Proofs.Ytjmkhdhffmlhiaa.PAll
end
section
namespace Go.Proofs.Ytjmkhdhffmlhiaa.PAll
open Go.RowKit Go.Proofs.YtjmkhdhffmlhiaaW.PrintWords Go.Proofs.YtjmkhdhffmlhiaaW.PrintMore
def Wd (x : Int) : Prop := 0 ≤ x ∧ x < 18446744073709551616
def tb (x : Int) (j : Nat) : Bool := x.toNat.testBit j
theorem wrap_u64 (n : Int) : IntKind.u64.wrap n = n % 18446744073709551616 := by simp [IntKind.wrap, IntKind.bits, IntKind.signed]
theorem wraps_u64 (n : Int) (h : Wd n) : IntKind.u64.wrap n = n := by rw [wrap_u64]; unfold Wd at h; omega
theorem Wd.nat {x : Int} (h : Wd x) : x.toNat < 2 ^ 64 ∧ (x.toNat : Int) = x := by unfold Wd at h; omega
theorem Wd.of {n : Nat} (h : n < 2 ^ 64) : Wd (n : Int) := by unfold Wd; omega
theorem Wd.zero : Wd 0 := by unfold Wd; omega
theorem tb_ext {x y : Int} (hx : Wd x) (hy : Wd y) (h : ∀ j, j < 64 → tb x j = tb y j) : x = y := by
  have hx' := hx.nat
  have hy' := hy.nat
  have : x.toNat = y.toNat := Nat.eq_of_testBit_eq fun j => by
    rcases Nat.lt_or_ge j 64 with hj | hj
    · exact h j hj
    · rw [Nat.testBit_lt_two_pow (Nat.lt_of_lt_of_le hx'.1 (Nat.pow_le_pow_right (by decide) hj)), Nat.testBit_lt_two_pow (Nat.lt_of_lt_of_le hy'.1 (Nat.pow_le_pow_right (by decide) hj))]
  rw [← hx'.2, ← hy'.2, this]
theorem tb_high {x : Int} (hx : Wd x) {j : Nat} (hj : 64 ≤ j) : tb x j = false :=
  Nat.testBit_lt_two_pow (Nat.lt_of_lt_of_le hx.nat.1 (Nat.pow_le_pow_right (by decide) hj))
theorem bits_bv (op : BinOp) (f : BitVec 64 → BitVec 64 → BitVec 64) (hf : ∀ a b : Int, Go.bits op .u64 a b = IntKind.u64.wrap ((f (BitVec.ofInt 64 a) (BitVec.ofInt 64 b)).toNat : Int)) (a b : Int) :
    Go.bits op .u64 a b = ((f (BitVec.ofInt 64 a) (BitVec.ofInt 64 b)).toNat : Int) ∧ Wd (Go.bits op .u64 a b) := by
  have h := (f (BitVec.ofInt 64 a) (BitVec.ofInt 64 b)).isLt
  have hw : Wd ((f (BitVec.ofInt 64 a) (BitVec.ofInt 64 b)).toNat : Int) := Wd.of h
  rw [hf, wraps_u64 _ hw]
  exact ⟨rfl, hw⟩
theorem ofInt_tb {a : Int} (ha : Wd a) (j : Nat) : (BitVec.ofInt 64 a).toNat.testBit j = tb a j := by
  have h := ha.nat
  have : (BitVec.ofInt 64 a).toNat = a.toNat := by
    rw [BitVec.toNat_ofInt]
    unfold Wd at ha
    omega
  rw [this]; rfl
theorem or_eq (a b : Int) : Go.bits .or .u64 a b = ((BitVec.ofInt 64 a ||| BitVec.ofInt 64 b).toNat : Int) ∧ Wd (Go.bits .or .u64 a b) := bits_bv .or (· ||| ·) (fun _ _ => rfl) a b
theorem and_eq (a b : Int) : Go.bits .and .u64 a b = ((BitVec.ofInt 64 a &&& BitVec.ofInt 64 b).toNat : Int) ∧ Wd (Go.bits .and .u64 a b) := bits_bv .and (· &&& ·) (fun _ _ => rfl) a b
theorem xor_eq (a b : Int) : Go.bits .xor .u64 a b = ((BitVec.ofInt 64 a ^^^ BitVec.ofInt 64 b).toNat : Int) ∧ Wd (Go.bits .xor .u64 a b) := bits_bv .xor (· ^^^ ·) (fun _ _ => rfl) a b
theorem andNot_eq (a b : Int) : Go.bits .andNot .u64 a b = ((BitVec.ofInt 64 a &&& ~~~ BitVec.ofInt 64 b).toNat : Int) ∧ Wd (Go.bits .andNot .u64 a b) := bits_bv .andNot (fun x y => x &&& ~~~ y) (fun _ _ => rfl) a b
theorem tb_or {a b : Int} (ha : Wd a) (hb : Wd b) (j : Nat) : tb (Go.bits .or .u64 a b) j = (tb a j || tb b j) := by
  rw [(or_eq a b).1]; unfold tb; rw [Int.toNat_natCast, BitVec.toNat_or, Nat.testBit_or, ofInt_tb ha, ofInt_tb hb]; rfl
theorem tb_and {a b : Int} (ha : Wd a) (hb : Wd b) (j : Nat) : tb (Go.bits .and .u64 a b) j = (tb a j && tb b j) := by
  rw [(and_eq a b).1]; unfold tb; rw [Int.toNat_natCast, BitVec.toNat_and, Nat.testBit_and, ofInt_tb ha, ofInt_tb hb]; rfl
theorem tb_xor {a b : Int} (ha : Wd a) (hb : Wd b) (j : Nat) : tb (Go.bits .xor .u64 a b) j = (tb a j != tb b j) := by
  rw [(xor_eq a b).1]; unfold tb; rw [Int.toNat_natCast, BitVec.toNat_xor, Nat.testBit_xor, ofInt_tb ha, ofInt_tb hb]; rfl
theorem tb_andNot {a b : Int} (ha : Wd a) (hb : Wd b) (j : Nat) : tb (Go.bits .andNot .u64 a b) j = (tb a j && !tb b j) := by
  rw [(andNot_eq a b).1]; unfold tb; rw [Int.toNat_natCast, BitVec.toNat_and, Nat.testBit_and, ofInt_tb ha]
  rcases Nat.lt_or_ge j 64 with hj | hj
  · congr 1
    rw [BitVec.testBit_toNat, BitVec.getLsbD_not]
    simp only [hj, decide_true, Bool.true_and]
    rw [← BitVec.testBit_toNat, ofInt_tb hb]; rfl
  · have := tb_high ha hj
    unfold tb at this
    rw [show tb a j = false from this, this]; simp
theorem one_shl {e : Int} (h0 : 0 ≤ e) (h1 : e < 64) : shl .u64 1 e = ((2 ^ e.toNat : Nat) : Int) ∧ Wd (shl .u64 1 e) := by
  have hp : 2 ^ e.toNat < 2 ^ 64 := Nat.pow_lt_pow_right (by decide) (by omega)
  have hw : Wd ((2 ^ e.toNat : Nat) : Int) := Wd.of hp
  have : shl .u64 1 e = IntKind.u64.wrap ((2 ^ e.toNat : Nat) : Int) := by
    unfold shl
    rw [show min e.toNat IntKind.u64.bits = e.toNat by simp [IntKind.bits]; omega, Int.one_mul]
    congr 1
  rw [this, wraps_u64 _ hw]
  exact ⟨rfl, hw⟩
theorem tb_one {e : Int} (h0 : 0 ≤ e) (h1 : e < 64) (j : Nat) : tb (shl .u64 1 e) j = decide (j = e.toNat) := by
  rw [(one_shl h0 h1).1]; unfold tb; rw [Int.toNat_natCast, Nat.testBit_two_pow]
  by_cases h : j = e.toNat
  · simp [h]
  · simp [h]; omega
theorem tb_zero (j : Nat) : tb 0 j = false := by simp [tb]
theorem shr_eq {x e : Int} (hx : Wd x) (h0 : 0 ≤ e) (h1 : e < 64) : shr .u64 x e = ((x.toNat >>> e.toNat : Nat) : Int) := by
  unfold shr
  rw [show min e.toNat IntKind.u64.bits = e.toNat by simp [IntKind.bits]; omega, Nat.shiftRight_eq_div_pow]
  conv => lhs; rw [← hx.nat.2]
  simp
theorem shr_bit {x e : Int} (hx : Wd x) (h0 : 0 ≤ e) (h1 : e < 64) : (Int.tmod (shr .u64 x e) 2 == 1) = tb x e.toNat := by
  rw [shr_eq hx h0 h1]
  unfold tb
  rw [Nat.testBit_eq_decide_div_mod_eq, ← Nat.shiftRight_eq_div_pow]
  have : Int.tmod ((x.toNat >>> e.toNat : Nat) : Int) 2 = ((x.toNat >>> e.toNat % 2 : Nat) : Int) := by
    rw [show (2 : Int) = ((2 : Nat) : Int) from rfl, ← Int.ofNat_tmod]
  rw [this]
  by_cases h : x.toNat >>> e.toNat % 2 = 1
  · simp [h]
  · have h2 : ¬ (((x.toNat >>> e.toNat % 2 : Nat) : Int) = 1) := by omega
    simp only [h, decide_false]
    exact beq_eq_false_iff_ne.mpr h2
end Go.Proofs.Ytjmkhdhffmlhiaa.PAll
end
section
namespace Go.Proofs.Ytjmkhdhffmlhiaa.PAll
open Go.RowKit Go.Proofs.YtjmkhdhffmlhiaaW.PrintWords Go.Proofs.YtjmkhdhffmlhiaaW.PrintMore
def Wds (ws : List Int) : Prop := ∀ x ∈ ws, Wd x
def hb (ws : List Int) (e : Nat) : Bool := tb (ws.getD (e / 64) 0) (e % 64)
def putw (ws : List Int) (e : Nat) : List Int := ws.set (e / 64) (Go.bits .or .u64 (ws.getD (e / 64) 0) (shl .u64 1 ((e % 64 : Nat) : Int)))
theorem Wds.getD {ws : List Int} (h : Wds ws) (i : Nat) : Wd (ws.getD i 0) := by
  rw [List.getD_eq_getElem?_getD]
  rcases Nat.lt_or_ge i ws.length with hi | hi
  · rw [List.getElem?_eq_getElem hi]; exact h _ (List.getElem_mem hi)
  · rw [List.getElem?_eq_none hi]; exact Wd.zero
theorem Wds.set {ws : List Int} (h : Wds ws) (i : Nat) {x : Int} (hx : Wd x) : Wds (ws.set i x) := by
  intro y hy
  rcases List.mem_or_eq_of_mem_set hy with h1 | h1
  · exact h _ h1
  · exact h1 ▸ hx
theorem Wds.replicate (n : Nat) : Wds (List.replicate n 0) := by
  intro x hx
  rw [(List.mem_replicate.1 hx).2]
  exact Wd.zero
theorem Wds.nil : Wds [] := fun _ h => by cases h
theorem rd_nat (ws : List Int) (i : Nat) : rd ws (i : Int) = ws.getD i 0 := by simp [rd]
theorem getD_set (ws : List Int) (i j : Nat) (x : Int) (hi : i < ws.length) : (ws.set i x).getD j 0 = if i = j then x else ws.getD j 0 := by
  rw [List.getD_eq_getElem?_getD, List.getElem?_set, List.getD_eq_getElem?_getD]
  by_cases h : i = j
  · subst h; simp [hi]
  · simp [h]
theorem hb_ext {ws vs : List Int} (hw : Wds ws) (hv : Wds vs) (hl : ws.length = vs.length) (h : ∀ e, e < 64 * ws.length → hb ws e = hb vs e) : ws = vs := by
  apply List.ext_getElem hl
  intro i h1 h2
  have hi : ws.getD i 0 = ws[i] := by rw [List.getD_eq_getElem?_getD, List.getElem?_eq_getElem h1]; rfl
  have hi2 : vs.getD i 0 = vs[i] := by rw [List.getD_eq_getElem?_getD, List.getElem?_eq_getElem h2]; rfl
  apply tb_ext (hw _ (List.getElem_mem h1)) (hv _ (List.getElem_mem h2))
  intro j hj
  have := h (64 * i + j) (by omega)
  unfold hb at this
  rw [show (64 * i + j) / 64 = i by omega, show (64 * i + j) % 64 = j by omega, hi, hi2] at this
  exact this
theorem hb_replicate (n e : Nat) : hb (List.replicate n 0) e = false := by
  unfold hb
  have : (List.replicate n (0 : Int)).getD (e / 64) 0 = 0 := by
    rw [List.getD_eq_getElem?_getD, List.getElem?_replicate]
    split <;> rfl
  rw [this]; exact tb_zero _
theorem hb_high {ws : List Int} {e : Nat} (h : 64 * ws.length ≤ e) : hb ws e = false := by
  unfold hb
  have : ws.getD (e / 64) 0 = 0 := by
    rw [List.getD_eq_getElem?_getD, List.getElem?_eq_none (by omega)]; rfl
  rw [this]; exact tb_zero _
theorem putw_length (ws : List Int) (e : Nat) : (putw ws e).length = ws.length := by simp [putw]
theorem putw_Wds {ws : List Int} (h : Wds ws) (e : Nat) : Wds (putw ws e) := h.set _ (or_eq _ _).2
theorem hb_putw {ws : List Int} (h : Wds ws) {e : Nat} (he : e / 64 < ws.length) (d : Nat) : hb (putw ws e) d = (hb ws d || decide (d = e)) := by
  unfold hb putw
  rw [getD_set _ _ _ _ he]
  by_cases h1 : e / 64 = d / 64
  · rw [if_pos h1, tb_or (h.getD _) (one_shl (by omega) (by omega)).2, tb_one (by omega) (by omega), h1]
    congr 1
    simp only [Int.toNat_natCast]
    by_cases h2 : d = e
    · subst h2; simp
    · simp only [h2, decide_false, decide_eq_false_iff_not]; omega
  · rw [if_neg h1]
    have : ¬ d = e := fun h2 => h1 (by rw [h2])
    simp [this]
structure Is (n : Nat) (p : Nat → Bool) (ws : List Int) : Prop where
  len : ws.length = (n + 63) / 64
  wds : Wds ws
  has : ∀ e, hb ws e = (decide (e < n) && p e)
theorem Is.eq {n : Nat} {p q : Nat → Bool} {ws vs : List Int} (h : Is n p ws) (k : Is n q vs) (hpq : ∀ e, e < n → p e = q e) : ws = vs := by
  apply hb_ext h.wds k.wds (h.len.trans k.len.symm)
  intro e _
  rw [h.has, k.has]
  by_cases he : e < n
  · rw [hpq e he]
  · simp [he]
theorem Is.congr {n : Nat} {p q : Nat → Bool} {ws : List Int} (h : Is n p ws) (hpq : ∀ e, e < n → p e = q e) : Is n q ws :=
  ⟨h.len, h.wds, fun e => by rw [h.has]; by_cases he : e < n <;> simp [he]; exact hpq e he⟩
theorem Is.none (n : Nat) : Is n (fun _ => false) (List.replicate ((n + 63) / 64) 0) := ⟨by simp, Wds.replicate _, fun e => by rw [hb_replicate]; simp⟩
theorem Is.put {n : Nat} {p : Nat → Bool} {ws : List Int} (h : Is n p ws) {e : Nat} (he : e < n) : Is n (fun d => p d || decide (d = e)) (putw ws e) := by
  refine ⟨by rw [putw_length, h.len], putw_Wds h.wds e, fun d => ?_⟩
  rw [hb_putw h.wds (by rw [h.len]; omega), h.has]
  by_cases h1 : d = e
  · subst h1; simp [he]
  · simp [h1]
theorem Is.lt {n : Nat} {p : Nat → Bool} {ws : List Int} (h : Is n p ws) {e : Nat} (he : e < n) : e / 64 < ws.length := by rw [h.len]; omega
theorem w64_nat {n : Int} (h0 : -9223372036854775808 ≤ n) (h1 : n ≤ 9223372036854775807) : wrap64 n = n := by unfold wrap64; omega
theorem tdiv_nat (e : Nat) : Int.tdiv (e : Int) 64 = ((e / 64 : Nat) : Int) := by rw [show (64 : Int) = ((64 : Nat) : Int) from rfl, ← Int.ofNat_tdiv]
theorem tmod_nat (e : Nat) : Int.tmod (e : Int) 64 = ((e % 64 : Nat) : Int) := by rw [show (64 : Int) = ((64 : Nat) : Int) from rfl, ← Int.ofNat_tmod]
end Go.Proofs.Ytjmkhdhffmlhiaa.PAll
end
section
namespace Go.Proofs.Ytjmkhdhffmlhiaa.PAll
open Go.ChangeShapes Go.WideShapes Go.RowKit Go.Proofs.YtjmkhdhffmlhiaaW.PrintWords Go.Proofs.YtjmkhdhffmlhiaaW.PrintMore
def good26 (x : S26) : Prop := (Lit.int .i64 x.f0).wf = true ∧ Wds x.f1 ∧ x.f1.length * 8 ≤ 140737488351232
theorem wf_wd {x : Int} (h : (Lit.int .u64 x).wf = true) : Wd x := by
  simp [Lit.wf, IntKind.min, IntKind.max, IntKind.signed, IntKind.bits] at h
  unfold Wd
  omega
theorem reads26 : Reads Try.prog 26 k26 good26 := by
  have hi : Reads Try.prog 3 (Kd.int .i64) _ := Reads.int Try.underlying3 (by kernel_rfl)
  have hu : Reads Try.prog 82 (Kd.int .u64) _ := Reads.int Try.underlying82 (by kernel_rfl)
  have hs := Reads.slice Try.underlying24 (by kernel_rfl) hu
  have hp := Reads.struct2 Try.underlying26 hi hs rfl (by kernel_rfl) (by kernel_rfl)
  have h := Reads.iso hp (fun x : S26 => (x.f0, x.f1)) (fun p => ⟨p.1, p.2⟩) (fun _ => rfl)
  have hb : Try.prog.bytesOf 82 = 8 := by kernel_rfl
  refine ⟨h.sz, fun hf hw => ?_⟩
  obtain ⟨a, h1, h2, h3, h4⟩ := h.opens hf hw
  rw [hb] at h4
  exact ⟨a, h1, h2, fun x hx => wf_wd (h3 x hx), h4⟩
set_option maxRecDepth 100000
section
variable {H : Type} {enc : TypeId × Value → H} {W : World} {r : Reach} {base : Nat} {spare : Nat → Bool} {held : Bool} {v : Value} {y : DataW H} {p : List MemPlace} {ts : List TypeId} {ds : List (DataW H)} {j : Nat}
theorem open_set (hval : Value.okWide Try.prog W r base 26 v) (h : DataW.Trod enc Try.prog W 0 spare held 26 v y p) (hsz : (DataW.weightsEach Try.prog ts ds).all (· ≤ reachBytes) = true) (ht : ts[j]? = some 26) (hd : ds[j]? = some y) :
    ∃ n A c l, v = .agg #[.int .i64 n, .slice A l.length c] ∧ l.length ≤ c ∧ Kd.C (Kd.int .u64) W A l.length l ∧ good26 ⟨n, l⟩ := by
  obtain ⟨a, h1, h2⟩ := reads26.param h hsz ht hd
  obtain ⟨cs, rfl, _⟩ := okWide_struct Try.underlying26 hval
  obtain ⟨A, c, e, hl, hc⟩ := k26_open h1
  have e2 : cs = #[.int .i64 a.f0, .slice A a.f1.length c] := by
    apply Array.toList_inj.1
    simpa [Value.cells] using e
  exact ⟨a.f0, A, c, a.f1, by rw [e2], hl, hc, h2⟩
end
end Go.Proofs.Ytjmkhdhffmlhiaa.PAll
end
section
namespace Go.Proofs.Ytjmkhdhffmlhiaa.PAll
open Go.RowKit Go.Proofs.YtjmkhdhffmlhiaaW.PrintWords Go.Proofs.YtjmkhdhffmlhiaaW.PrintLast Go.Proofs.YtjmkhdhffmlhiaaW.PrintMore
attribute [local go_sem] max2_int min2_int max_two min_two max_three min_three max_four min_four w64_u8 w64_mod256   -- for this text's walks alone
set_option linter.unusedVariables false
set_option linter.unusedSimpArgs false
end Go.Proofs.Ytjmkhdhffmlhiaa.PAll
end
section
namespace Go.Proofs.Ytjmkhdhffmlhiaa.PAll
open Go.RowKit Go.Proofs.YtjmkhdhffmlhiaaW.PrintWords Go.Proofs.YtjmkhdhffmlhiaaW.PrintLast Go.Proofs.YtjmkhdhffmlhiaaW.PrintMore
attribute [local go_sem] max2_int min2_int max_two min_two max_three min_three max_four min_four w64_u8 w64_mod256   -- for this text's walks alone
set_option linter.unusedVariables false
set_option linter.unusedSimpArgs false
end Go.Proofs.Ytjmkhdhffmlhiaa.PAll
end
section
namespace Go.Proofs.Ytjmkhdhffmlhiaa.PAll
open Go.RowKit Go.Proofs.YtjmkhdhffmlhiaaW.PrintWords Go.Proofs.YtjmkhdhffmlhiaaW.PrintLast Go.Proofs.YtjmkhdhffmlhiaaW.PrintMore
attribute [local go_sem] max2_int min2_int max_two min_two max_three min_three max_four min_four w64_u8 w64_mod256   -- for this text's walks alone
set_option linter.unusedVariables false
set_option linter.unusedSimpArgs false
end Go.Proofs.Ytjmkhdhffmlhiaa.PAll
end
section
namespace Go.Proofs.Ytjmkhdhffmlhiaa.PAll
open Go.RowKit Go.Proofs.YtjmkhdhffmlhiaaW.PrintWords Go.Proofs.YtjmkhdhffmlhiaaW.PrintLast Go.Proofs.YtjmkhdhffmlhiaaW.PrintMore
attribute [local go_sem] max2_int min2_int max_two min_two max_three min_three max_four min_four w64_u8 w64_mod256   -- for this text's walks alone
set_option linter.unusedVariables false
set_option linter.unusedSimpArgs false
end Go.Proofs.Ytjmkhdhffmlhiaa.PAll
end
section
namespace Go.Proofs.Ytjmkhdhffmlhiaa.PAll
open Go.RowKit Go.Proofs.YtjmkhdhffmlhiaaW.PrintWords Go.Proofs.YtjmkhdhffmlhiaaW.PrintLast Go.Proofs.YtjmkhdhffmlhiaaW.PrintMore
attribute [local go_sem] max2_int min2_int max_two min_two max_three min_three max_four min_four w64_u8 w64_mod256   -- for this text's walks alone
set_option linter.unusedVariables false
set_option linter.unusedSimpArgs false
end Go.Proofs.Ytjmkhdhffmlhiaa.PAll
end
section
namespace Go.Proofs.Ytjmkhdhffmlhiaa.PAll
open Go.RowKit Go.Proofs.YtjmkhdhffmlhiaaW.PrintWords Go.Proofs.YtjmkhdhffmlhiaaW.PrintMore
theorem Ev.const {α : Type} {g : Nat → Option α} {r : α} (h : ∀ k, g k = some r) : Ev g r := ⟨0, fun k _ => h k⟩
theorem sized_yes {n : Nat} (h : n ≤ 4096) : bitset_sized.f (n : Int) = some true := by
  unfold bitset_sized.f
  rw [if_pos (by omega), decide_eq_true (by omega)]
theorem sized_no {n : Int} (h : n < 0 ∨ 4096 < n) : bitset_sized.f n = some false := by
  unfold bitset_sized.f
  by_cases h0 : n ≥ 0
  · rw [if_pos h0, decide_eq_false (by omega)]
  · rw [if_neg h0]
theorem words_eq {n : Nat} (h : n ≤ 4096) : bitset_words.f (n : Int) = some (((n + 63) / 64 : Nat) : Int) := by
  unfold bitset_words.f
  have h1 : wrap64 (wrap64 ((n : Int) + 64) - 1) = ((n + 63 : Nat) : Int) := by unfold wrap64; omega
  rw [h1, tdiv_nat]
  congr 1
  apply w64_nat <;> omega
theorem blank_eq {n : Nat} (h : n ≤ 4096) : bitset_blank.f (n : Int) = some ((n : Int), List.replicate ((n + 63) / 64) 0) := by
  unfold bitset_blank.f
  rw [words_eq h]
  simp only [Option.bind_some, Int.toNat_natCast]
  rw [if_pos (by omega), if_pos (by omega)]
def MakeSays (size : Int) (l : List Int) (r : Int × List Int × Int) : Prop :=
  ((size < 0 ∨ 4096 < size) ∧ r = (0, [], 60)) ∨ (0 ≤ size ∧ size ≤ 4096 ∧ (((∃ x ∈ l, x < 0 ∨ size ≤ x) ∧ r = (0, [], 62)) ∨
    ((∀ x ∈ l, 0 ≤ x ∧ x < size) ∧ ∃ ws, Is size.toNat (fun e => decide ((e : Int) ∈ l)) ws ∧ r = (size, ws, 0))))
theorem MakeSays.eq {size : Int} {l : List Int} {r q : Int × List Int × Int} (h : MakeSays size l r) (k : MakeSays size l q) : r = q := by
  rcases h with ⟨h1, rfl⟩ | ⟨h1, h2, ⟨⟨x, h3, h4⟩, rfl⟩ | ⟨h3, ws, h4, rfl⟩⟩ <;> rcases k with ⟨k1, rfl⟩ | ⟨k1, k2, ⟨⟨y, k3, k4⟩, rfl⟩ | ⟨k3, vs, k4, rfl⟩⟩
  · rfl
  · omega
  · omega
  · omega
  · rfl
  · have := k3 x h3; omega
  · omega
  · have := h3 y k3; omega
  · rw [h4.eq k4 (fun _ _ => rfl)]
theorem Of_loop (inb : List Bool) (n : Nat) (hn : inb.length = n) (hb : n ≤ 4096) : ∀ (d i : Nat) (p : Nat → Bool) (ws : List Int), i + d = n → Is n p ws → (∀ e, p e = (decide (e < i) && inb.getD e false)) →
    ∃ ws', Is n (fun e => inb.getD e false) ws' ∧ Ev (fun k => sloperef3_Of.l0 k inb (i : Int) (n : Int) ws) ((n : Int), ws') := by
  intro d
  induction d with
  | zero =>
    intro i p ws hi h hp
    refine ⟨ws, h.congr fun e he => ?_, ⟨1, fun k hk => ?_⟩⟩
    · rw [hp]; simp; intro _; omega
    · obtain ⟨k, rfl⟩ : ∃ m, k = m + 1 := ⟨k - 1, by omega⟩
      simp only [sloperef3_Of.l0]
      rw [if_neg (by omega)]
  | succ d ih =>
    intro i p ws hi h hp
    have hr : rdOf false inb (i : Int) = inb.getD i false := by simp [rdOf]
    by_cases hx : inb.getD i false = true
    · obtain ⟨ws', h1, h2⟩ := ih (i + 1) _ (putw ws i) (by omega) (h.put (e := i) (by omega)) (fun e => by
        rw [hp]
        by_cases he : e = i
        · subst he; simp at hx; simp [hx]
        · have : (e < i + 1) = (e < i) := by simp; omega
          simp [he, this])
      refine ⟨ws', h1, Ev.step (fun k => ?_) h2⟩
      conv => lhs; rw [sloperef3_Of.l0]
      have hu : IntKind.u64.wrap ((i % 64 : Nat) : Int) = ((i % 64 : Nat) : Int) := wraps_u64 _ (by unfold Wd; omega)
      have hlt := h.lt (e := i) (by omega)
      rw [if_pos (by omega), if_pos (by omega), hr, if_pos hx, tdiv_nat, tmod_nat, w64_nat (by omega) (by omega), hu, if_pos (by omega), if_pos (by omega), if_pos (by omega)]
      rw [show wrap64 ((i : Int) + 1) = ((i + 1 : Nat) : Int) by unfold wrap64; omega]
      simp only [Int.toNat_natCast, putw, rd_nat]
    · obtain ⟨ws', h1, h2⟩ := ih (i + 1) p ws (by omega) h (fun e => by
        rw [hp]
        by_cases he : e = i
        · subst he; simp at hx; simp [hx]
        · have : (e < i + 1) = (e < i) := by simp; omega
          simp [this])
      refine ⟨ws', h1, Ev.step (fun k => ?_) h2⟩
      conv => lhs; rw [sloperef3_Of.l0]
      rw [if_pos (by omega), if_pos (by omega), hr, if_neg hx]
      rw [show wrap64 ((i : Int) + 1) = ((i + 1 : Nat) : Int) by unfold wrap64; omega]
theorem Of_eq (inb : List Bool) (hb : inb.length ≤ 4096) : ∃ ws, Is inb.length (fun e => inb.getD e false) ws ∧ Ev (fun k => sloperef3_Of.f k inb) ((inb.length : Int), ws) := by
  obtain ⟨ws, h1, h2⟩ := Of_loop inb inb.length rfl hb inb.length 0 _ _ (by omega) (Is.none inb.length) (fun e => by simp)
  refine ⟨ws, h1, Ev.congr (fun k => ?_) h2⟩
  unfold sloperef3_Of.f
  have h3 : wrap64 ((inb.length : Int) + 63) = ((inb.length + 63 : Nat) : Int) := by unfold wrap64; omega
  rw [h3, tdiv_nat, w64_nat (by omega) (by omega), if_pos (by omega), Int.toNat_natCast, if_pos (by omega)]
  rfl
theorem span_tb {f t : Nat} (h1 : f < t) (h2 : t ≤ 64) (j : Nat) :
    tb (shl .u64 (shr .u64 18446744073709551615 (64 - ((t : Int) - (f : Int)))) (f : Int)) j = (decide (f ≤ j) && decide (j < t)) ∧ Wd (shl .u64 (shr .u64 18446744073709551615 (64 - ((t : Int) - (f : Int)))) (f : Int)) := by
  have hone : Wd 18446744073709551615 := by unfold Wd; omega
  have hs : (64 - ((t : Int) - (f : Int))) = ((64 - (t - f) : Nat) : Int) := by omega
  have h3 : shr .u64 18446744073709551615 (64 - ((t : Int) - (f : Int))) = ((2 ^ (t - f) - 1 : Nat) : Int) := by
    rw [hs, shr_eq hone (by omega) (by omega), Int.toNat_natCast]
    congr 1
    rw [show (18446744073709551615 : Int).toNat = 2 ^ 64 - 1 by decide]
    apply Nat.eq_of_testBit_eq
    intro i
    rw [Nat.testBit_shiftRight, Nat.testBit_two_pow_sub_one, Nat.testBit_two_pow_sub_one]
    congr 1
    simp only [eq_iff_iff]
    omega
  have hp : 0 < 2 ^ (t - f) := Nat.two_pow_pos _
  have hlt : (2 ^ (t - f) - 1) * 2 ^ f < 2 ^ 64 := by
    have h4 : 2 ^ (t - f) * 2 ^ f = 2 ^ t := by rw [← Nat.pow_add]; congr 1; omega
    have h5 : 2 ^ t ≤ 2 ^ 64 := Nat.pow_le_pow_right (by decide) h2
    have h6 : 0 < 2 ^ f := Nat.two_pow_pos _
    rw [Nat.sub_mul, h4]
    omega
  have hw : Wd (((2 ^ (t - f) - 1) * 2 ^ f : Nat) : Int) := Wd.of hlt
  have h7 : shl .u64 ((2 ^ (t - f) - 1 : Nat) : Int) (f : Int) = (((2 ^ (t - f) - 1) * 2 ^ f : Nat) : Int) := by
    unfold shl
    rw [show min (f : Int).toNat IntKind.u64.bits = f by simp [IntKind.bits]; omega]
    have : ((2 ^ (t - f) - 1 : Nat) : Int) * 2 ^ f = (((2 ^ (t - f) - 1) * 2 ^ f : Nat) : Int) := by rw [Int.natCast_mul]; simp
    rw [this, wraps_u64 _ hw]
  rw [h3, h7]
  refine ⟨?_, hw⟩
  unfold tb
  rw [Int.toNat_natCast, ← Nat.shiftLeft_eq, Nat.testBit_shiftLeft, Nat.testBit_two_pow_sub_one]
  by_cases h8 : f ≤ j
  · simp only [h8, decide_true, Bool.true_and]
    congr 1
    simp only [eq_iff_iff]
    omega
  · simp [h8]
theorem hb_set (ws : List Int) (i : Nat) (x : Int) (hi : i < ws.length) (e : Nat) : hb (ws.set i x) e = if i = e / 64 then tb x (e % 64) else hb ws e := by
  unfold hb
  rw [getD_set _ _ _ _ hi]
  split <;> rfl
end Go.Proofs.Ytjmkhdhffmlhiaa.PAll
end
section
namespace Go.Proofs.Ytjmkhdhffmlhiaa.PAll
open Go.RowKit Go.Proofs.YtjmkhdhffmlhiaaW.PrintWords Go.Proofs.YtjmkhdhffmlhiaaW.PrintLast Go.Proofs.YtjmkhdhffmlhiaaW.PrintMore
attribute [local go_sem] max2_int min2_int max_two min_two max_three min_three max_four min_four w64_u8 w64_mod256   -- for this text's walks alone
set_option linter.unusedVariables false
set_option linter.unusedSimpArgs false
end Go.Proofs.Ytjmkhdhffmlhiaa.PAll
end
section
namespace Go.Proofs.Ytjmkhdhffmlhiaa.PAll
open Go.RowKit Go.Proofs.YtjmkhdhffmlhiaaW.PrintWords Go.Proofs.YtjmkhdhffmlhiaaW.PrintLast Go.Proofs.YtjmkhdhffmlhiaaW.PrintMore
attribute [local go_sem] max2_int min2_int max_two min_two max_three min_three max_four min_four w64_u8 w64_mod256   -- for this text's walks alone
set_option linter.unusedVariables false
set_option linter.unusedSimpArgs false
end Go.Proofs.Ytjmkhdhffmlhiaa.PAll
end
section
namespace Go.Proofs.Ytjmkhdhffmlhiaa.PAll
open Go.RowKit Go.Proofs.YtjmkhdhffmlhiaaW.PrintWords Go.Proofs.YtjmkhdhffmlhiaaW.PrintLast Go.Proofs.YtjmkhdhffmlhiaaW.PrintMore
attribute [local go_sem] max2_int min2_int max_two min_two max_three min_three max_four min_four w64_u8 w64_mod256   -- for this text's walks alone
set_option linter.unusedVariables false
set_option linter.unusedSimpArgs false
end Go.Proofs.Ytjmkhdhffmlhiaa.PAll
end
section
namespace Go.Proofs.Ytjmkhdhffmlhiaa.PAll
open Go.RowKit Go.Proofs.YtjmkhdhffmlhiaaW.PrintWords Go.Proofs.YtjmkhdhffmlhiaaW.PrintLast Go.Proofs.YtjmkhdhffmlhiaaW.PrintMore
attribute [local go_sem] max2_int min2_int max_two min_two max_three min_three max_four min_four w64_u8 w64_mod256   -- for this text's walks alone
set_option linter.unusedVariables false
set_option linter.unusedSimpArgs false
end Go.Proofs.Ytjmkhdhffmlhiaa.PAll
end
section
namespace Go.Proofs.Ytjmkhdhffmlhiaa.PAll
open Go.RowKit Go.Proofs.YtjmkhdhffmlhiaaW.PrintWords Go.Proofs.YtjmkhdhffmlhiaaW.PrintLast Go.Proofs.YtjmkhdhffmlhiaaW.PrintMore
attribute [local go_sem] max2_int min2_int max_two min_two max_three min_three max_four min_four w64_u8 w64_mod256   -- for this text's walks alone
set_option linter.unusedVariables false
set_option linter.unusedSimpArgs false
end Go.Proofs.Ytjmkhdhffmlhiaa.PAll
end
section
namespace Go.Proofs.Ytjmkhdhffmlhiaa.PAll
set_option linter.unusedVariables false
open Go.RowKit Go.Proofs.YtjmkhdhffmlhiaaW.PrintWords Go.Proofs.YtjmkhdhffmlhiaaW.PrintMore
def MayP (n : Int) (ws : List Int) : Prop := 0 ≤ n ∧ n ≤ 4096 ∧ ws.length = (n.toNat + 63) / 64 ∧ ∀ e : Nat, n.toNat ≤ e → hb ws e = false
noncomputable def may (n : Int) (ws : List Int) : Bool := @decide (MayP n ws) (Classical.propDecidable _)
theorem may_true {n : Int} {ws : List Int} : may n ws = true ↔ MayP n ws := by unfold may; exact @decide_eq_true_iff _ (Classical.propDecidable _)
theorem may_false {n : Int} {ws : List Int} : may n ws = false ↔ ¬ MayP n ws := by unfold may; exact @decide_eq_false_iff_not _ (Classical.propDecidable _)
theorem may_of {n : Int} {ws : List Int} {b : Bool} (h : b = true ↔ MayP n ws) : b = may n ws := by
  rw [Bool.eq_iff_iff, h, may_true]
theorem MayP.is {n : Int} {ws : List Int} (h : MayP n ws) (hw : Wds ws) : Is n.toNat (hb ws) ws :=
  ⟨h.2.2.1, hw, fun e => by
    by_cases he : e < n.toNat
    · simp [he]
    · rw [h.2.2.2 e (by omega)]; simp [he]⟩
theorem Is.may {n : Nat} {p : Nat → Bool} {ws : List Int} (h : Is n p ws) (hn : n ≤ 4096) : MayP (n : Int) ws :=
  ⟨by omega, by omega, by rw [h.len]; simp, fun e he => (by
    rw [h.has]
    have : ¬ e < n := by omega
    simp [this])⟩
theorem In_eq {n : Int} {ws : List Int} {e : Nat} (hw : Wds ws) (he : e / 64 < ws.length) (hb1 : e < 1000000) : sloperef3_In.f n ws (e : Int) = some (hb ws e) := by
  unfold sloperef3_In.f
  rw [tdiv_nat, tmod_nat, w64_nat (by omega) (by omega), wraps_u64 _ (by unfold Wd; omega), if_pos (by omega), if_pos (by omega), if_pos (by omega), rd_nat, shr_bit (hw.getD _) (by omega) (by omega)]
  simp only [hb, Int.toNat_natCast]
theorem rMay_loop (n : Int) (ws : List Int) (hw : Wds ws) (hl : ws.length ≤ 64) : ∀ d i : Nat, i + d = 64 * ws.length → ∃ b : Bool, (b = true ↔ ∀ e, i ≤ e → hb ws e = false) ∧ Ev (fun k => sloperef3_May.l0 k (i : Int) n ws) b := by
  intro d
  induction d with
  | zero =>
    intro i hi
    refine ⟨true, ⟨fun _ e he => hb_high (by omega), fun _ => rfl⟩, ⟨1, fun k hk => ?_⟩⟩
    obtain ⟨k, rfl⟩ : ∃ m, k = m + 1 := ⟨k - 1, by omega⟩
    simp only [sloperef3_May.l0]
    rw [w64_nat (by omega) (by omega), if_neg (by omega)]
  | succ d ih =>
    intro i hi
    have hlt : i / 64 < ws.length := by omega
    by_cases hx : hb ws i = true
    · refine ⟨false, ⟨fun h => (by cases h), fun h => (by rw [h i (Nat.le_refl _)] at hx; cases hx)⟩, ⟨1, fun k hk => ?_⟩⟩
      obtain ⟨k, rfl⟩ : ∃ m, k = m + 1 := ⟨k - 1, by omega⟩
      simp only [sloperef3_May.l0]
      rw [w64_nat (by omega) (by omega), if_pos (by omega), In_eq hw hlt (by omega), Option.bind_some, if_pos hx]
    · obtain ⟨b, h1, h2⟩ := ih (i + 1) (by omega)
      refine ⟨b, h1.trans ⟨fun h e he => ?_, fun h e he => h e (by omega)⟩, Ev.step (fun k => ?_) h2⟩
      · rcases Nat.eq_or_lt_of_le he with rfl | h3
        · simpa using hx
        · exact h e h3
      · conv => lhs; rw [sloperef3_May.l0]
        rw [w64_nat (by omega) (by omega), if_pos (by omega), In_eq hw hlt (by omega), Option.bind_some, if_neg hx]
        rw [show wrap64 ((i : Int) + 1) = ((i + 1 : Nat) : Int) by unfold wrap64; omega]
theorem rMay_eq (n : Int) (ws : List Int) (hw : Wds ws) (hl : ws.length ≤ 9223372036854775807) : Ev (fun k => sloperef3_May.f k n ws) (may n ws) := by
  by_cases hs : 0 ≤ n ∧ n ≤ 4096
  · obtain ⟨m, rfl⟩ := Int.eq_ofNat_of_zero_le hs.1
    have h3 : wrap64 (Int.tdiv (wrap64 ((m : Int) + 63)) 64) = (((m + 63) / 64 : Nat) : Int) := by
      rw [show wrap64 ((m : Int) + 63) = ((m + 63 : Nat) : Int) by unfold wrap64; omega, tdiv_nat, w64_nat (by omega) (by omega)]
    by_cases hq : ws.length = (m + 63) / 64
    · obtain ⟨b, h1, h2⟩ := rMay_loop (m : Int) ws hw (by omega) (64 * ws.length - m) m (by omega)
      have hb' : b = may (m : Int) ws := may_of ⟨fun h => ⟨by omega, by omega, by simpa using hq, by simpa using h1.1 h⟩, fun h => h1.2 (by simpa using h.2.2.2)⟩
      rw [← hb']
      refine Ev.congr (f := fun k => sloperef3_May.j0 k false (m : Int) ws) (fun k => ?_) (Ev.step (fun k => ?_) h2)
      · unfold sloperef3_May.f
        rw [if_neg (by omega), if_neg (by omega), h3, bne_eq_false_iff_eq.mpr (by omega)]
      · rw [sloperef3_May.j0]
        rw [if_neg (by simp)]
    · have hb' : may (m : Int) ws = false := may_false.2 fun h => hq (by simpa using h.2.2.1)
      rw [hb']
      refine Ev.congr (f := fun k => sloperef3_May.j0 k true (m : Int) ws) (fun k => ?_) (Ev.step (f := fun _ => some false) (fun k => ?_) (Ev.now _))
      · unfold sloperef3_May.f
        rw [if_neg (by omega), if_neg (by omega), h3, bne_iff_ne.mpr (by omega)]
      · rw [sloperef3_May.j0]
        rw [if_pos rfl]
  · have hb' : may n ws = false := may_false.2 fun h => hs ⟨h.1, h.2.1⟩
    rw [hb']
    refine Ev.congr (f := fun k => sloperef3_May.j0 k true n ws) (fun k => ?_) (Ev.step (f := fun _ => some false) (fun k => ?_) (Ev.now _))
    · unfold sloperef3_May.f
      by_cases h0 : n < 0
      · rw [if_pos h0]
      · rw [if_neg h0, if_pos (by omega)]
    · rw [sloperef3_May.j0]
      rw [if_pos rfl]
theorem mask_tb (n : Nat) (hn : n ≤ 4096) : ∃ m, bitset_mask.f (n : Int) = some m ∧ Wd m ∧ ∀ j, j < 64 → tb m j = (decide (n % 64 = 0) || decide (j < n % 64)) := by
  unfold bitset_mask.f
  rw [tmod_nat]
  by_cases h : n % 64 = 0
  · refine ⟨18446744073709551615, by rw [if_pos (by omega)], by unfold Wd; omega, fun j hj => ?_⟩
    have : tb 18446744073709551615 j = decide (j < 64) := by
      unfold tb
      rw [show (18446744073709551615 : Int).toNat = 2 ^ 64 - 1 by decide, Nat.testBit_two_pow_sub_one]
    rw [this]; simp [h, hj]
  · have h1 := one_shl (e := ((n % 64 : Nat) : Int)) (by omega) (by omega)
    rw [Int.toNat_natCast] at h1
    have hp : 0 < 2 ^ (n % 64) := Nat.two_pow_pos _
    have h2 : shl .u64 1 ((n % 64 : Nat) : Int) - 1 = ((2 ^ (n % 64) - 1 : Nat) : Int) := by rw [h1.1]; omega
    have h3 : Wd ((2 ^ (n % 64) - 1 : Nat) : Int) := by
      have := h1.2
      rw [h1.1] at this
      unfold Wd at this ⊢
      omega
    refine ⟨((2 ^ (n % 64) - 1 : Nat) : Int), ?_, h3, fun j hj => ?_⟩
    · rw [if_neg (by omega), if_pos (by omega), h2, wraps_u64 _ h3]
    · unfold tb
      rw [Int.toNat_natCast, Nat.testBit_two_pow_sub_one]
      simp [h]
theorem andNot_zero {x y : Int} (hx : Wd x) (hy : Wd y) : (Go.bits .andNot .u64 x y == 0) = true ↔ ∀ j, j < 64 → tb x j = true → tb y j = true := by
  rw [beq_iff_eq]
  constructor
  · intro h j hj hxj
    have h1 := tb_andNot hx hy j
    rw [h, tb_zero, hxj] at h1
    simpa using h1
  · intro h
    refine tb_ext (andNot_eq _ _).2 Wd.zero fun j hj => ?_
    rw [tb_andNot hx hy, tb_zero]
    cases h1 : tb x j
    · rfl
    · rw [h j hj h1]; rfl
theorem May_eq (n : Int) (ws : List Int) (hw : Wds ws) (hl : ws.length ≤ 9223372036854775807) : bitset_May.f n ws = some (may n ws) := by
  unfold bitset_May.f
  by_cases hs : 0 ≤ n ∧ n ≤ 4096
  · obtain ⟨m, rfl⟩ := Int.eq_ofNat_of_zero_le hs.1
    have hm : m ≤ 4096 := by omega
    rw [sized_yes hm, Option.bind_some, if_pos rfl, words_eq hm, Option.bind_some]
    by_cases hq : ws.length = (m + 63) / 64
    · rw [if_pos (by omega)]
      by_cases h0 : ws.length = 0
      · rw [if_pos (by omega)]
        congr 1
        exact (may_true.2 ⟨by omega, by omega, by simpa using hq, fun e he => hb_high (by omega)⟩).symm
      · obtain ⟨l, hl1⟩ : ∃ l, ws.length = l + 1 := ⟨ws.length - 1, by omega⟩
        have h4 : wrap64 ((ws.length : Int) - 1) = (l : Int) := by rw [w64_nat (by omega) (by omega)]; omega
        obtain ⟨mk, h5, h6, h7⟩ := mask_tb m hm
        rw [if_neg (by omega), h4, if_pos (by omega), if_pos (by omega), h5, Option.bind_some, rd_nat]
        congr 1
        apply may_of
        rw [andNot_zero (hw.getD _) h6]
        constructor
        · refine fun h => ⟨by omega, by omega, by simpa using hq, fun e he => ?_⟩
          rw [Int.toNat_natCast] at he
          rcases Nat.lt_or_ge e (64 * ws.length) with h8 | h8
          · unfold hb
            rw [show e / 64 = l by omega]
            cases h9 : tb (ws.getD l 0) (e % 64)
            · rfl
            · have h10 := h (e % 64) (by omega) h9
              rw [h7 _ (by omega), Bool.or_eq_true, decide_eq_true_eq, decide_eq_true_eq] at h10
              omega
          · exact hb_high h8
        · intro h j hj hx
          rw [h7 _ hj, Bool.or_eq_true, decide_eq_true_eq, decide_eq_true_eq]
          refine Classical.byContradiction fun h8 => ?_
          have h9 := h.2.2.2 (64 * l + j) (by rw [Int.toNat_natCast]; omega)
          unfold hb at h9
          rw [show (64 * l + j) / 64 = l by omega, show (64 * l + j) % 64 = j by omega, hx] at h9
          cases h9
    · rw [if_neg (by omega)]
      congr 1
      exact (may_false.2 fun h => hq (by simpa using h.2.2.1)).symm
  · rw [sized_no (by omega), Option.bind_some, if_neg (by simp)]
    congr 1
    exact (may_false.2 fun h => hs ⟨h.1, h.2.1⟩).symm
theorem fill_loop {α : Type} (n : Nat) (f : Nat → Bool) (g : Nat → List Bool → Int → Option α) (r : α) (hstep : ∀ k i inb, i < n → inb.length = n → g (k + 1) inb ((i : Nat) : Int) = g k (inb.set i (f i)) ((i + 1 : Nat) : Int))
    (hend : Ev (fun k => g k ((List.range n).map f) (n : Int)) r) : Ev (fun k => g k (List.replicate n false) ((0 : Nat) : Int)) r := by
  have key : ∀ d i : Nat, i + d = n → Ev (fun k => g k ((List.range i).map f ++ List.replicate d false) (i : Int)) r := by
    intro d
    induction d with
    | zero => intro i hi; have : i = n := by omega
              subst this; simpa using hend
    | succ d ih =>
      intro i hi
      refine Ev.step (fun k => ?_) (ih (i + 1) (by omega))
      rw [hstep k i _ (by omega) (by simp; omega)]
      congr 1
      rw [List.set_append_right _ _ (by simp), List.length_map, List.length_range, Nat.sub_self, List.replicate_succ, List.set_cons_zero, List.range_succ, List.map_append, List.append_assoc]
      rfl
  simpa using key n 0 (by omega)
theorem Of_map (n : Nat) (hn : n ≤ 4096) (f : Nat → Bool) : ∃ ws, Is n f ws ∧ Ev (fun k => (sloperef3_Of.f k ((List.range n).map f)).bind fun b => some (b.1, b.2, (0 : Int))) ((n : Int), ws, 0) := by
  obtain ⟨ws, h1, h2⟩ := Of_eq ((List.range n).map f) (by simp; exact hn)
  simp only [List.length_map, List.length_range] at h1 h2
  refine ⟨ws, h1.congr fun e he => ?_, Ev.bind (f := fun _ b => some (b.1, b.2, (0 : Int))) h2 (Ev.now _)⟩
  simp [List.getD_eq_getElem?_getD, he]
def TurnSays (n : Int) (ws : List Int) (e : Int) (yes : Bool) (r : Int × List Int × Int) : Prop :=
  (¬ MayP n ws ∧ r = (0, [], 61)) ∨ (MayP n ws ∧ (((e < 0 ∨ n ≤ e) ∧ r = (0, [], 62)) ∨ (0 ≤ e ∧ e < n ∧ ∃ vs, Is n.toNat (fun d => if d = e.toNat then yes else hb ws d) vs ∧ r = (n, vs, 0))))
theorem TurnSays.eq {n : Int} {ws : List Int} {e : Int} {yes : Bool} {r q : Int × List Int × Int} (h : TurnSays n ws e yes r) (k : TurnSays n ws e yes q) : r = q := by
  rcases h with ⟨h1, rfl⟩ | ⟨h1, ⟨h2, rfl⟩ | ⟨h2, h3, vs, h4, rfl⟩⟩ <;> rcases k with ⟨k1, rfl⟩ | ⟨k1, ⟨k2, rfl⟩ | ⟨k2, k3, us, k4, rfl⟩⟩
  · rfl
  · exact absurd k1 h1
  · exact absurd k1 h1
  · exact absurd h1 k1
  · rfl
  · omega
  · exact absurd h1 k1
  · omega
  · rw [h4.eq k4 (fun _ _ => rfl)]
theorem own_eq {n : Int} {ws : List Int} (h : MayP n ws) (hw : Wds ws) : bitset_own.f n ws = some ws := by
  have h1 := h.2.1
  have h2 := h.2.2.1
  unfold bitset_own.f
  rw [May_eq n ws hw (by omega), may_true.2 h, Option.bind_some, if_pos rfl, if_pos (by simp only [List.length_nil]; omega), List.nil_append]
end Go.Proofs.Ytjmkhdhffmlhiaa.PAll
end
section
namespace Go.Proofs.Ytjmkhdhffmlhiaa.PAll
open Go.RowKit Go.Proofs.YtjmkhdhffmlhiaaW.PrintWords Go.Proofs.YtjmkhdhffmlhiaaW.PrintLast Go.Proofs.YtjmkhdhffmlhiaaW.PrintMore
attribute [local go_sem] max2_int min2_int max_two min_two max_three min_three max_four min_four w64_u8 w64_mod256   -- for this text's walks alone
set_option linter.unusedVariables false
set_option linter.unusedSimpArgs false
end Go.Proofs.Ytjmkhdhffmlhiaa.PAll
end
section
namespace Go.Proofs.Ytjmkhdhffmlhiaa.PAll
open Go.RowKit Go.Proofs.YtjmkhdhffmlhiaaW.PrintWords Go.Proofs.YtjmkhdhffmlhiaaW.PrintLast Go.Proofs.YtjmkhdhffmlhiaaW.PrintMore
attribute [local go_sem] max2_int min2_int max_two min_two max_three min_three max_four min_four w64_u8 w64_mod256   -- for this text's walks alone
set_option linter.unusedVariables false
set_option linter.unusedSimpArgs false
end Go.Proofs.Ytjmkhdhffmlhiaa.PAll
end
section
namespace Go.Proofs.Ytjmkhdhffmlhiaa.PAll
open Go.RowKit Go.Proofs.YtjmkhdhffmlhiaaW.PrintWords Go.Proofs.YtjmkhdhffmlhiaaW.PrintLast Go.Proofs.YtjmkhdhffmlhiaaW.PrintMore
attribute [local go_sem] max2_int min2_int max_two min_two max_three min_three max_four min_four w64_u8 w64_mod256   -- for this text's walks alone
set_option linter.unusedVariables false
set_option linter.unusedSimpArgs false
end Go.Proofs.Ytjmkhdhffmlhiaa.PAll
end
section
namespace Go.Proofs.Ytjmkhdhffmlhiaa.PAll
open Go.RowKit Go.Proofs.YtjmkhdhffmlhiaaW.PrintWords Go.Proofs.YtjmkhdhffmlhiaaW.PrintLast Go.Proofs.YtjmkhdhffmlhiaaW.PrintMore
attribute [local go_sem] max2_int min2_int max_two min_two max_three min_three max_four min_four w64_u8 w64_mod256   -- for this text's walks alone
set_option linter.unusedVariables false
set_option linter.unusedSimpArgs false
end Go.Proofs.Ytjmkhdhffmlhiaa.PAll
end
section
namespace Go.Proofs.Ytjmkhdhffmlhiaa.PAll
open Go.RowKit Go.Proofs.YtjmkhdhffmlhiaaW.PrintWords Go.Proofs.YtjmkhdhffmlhiaaW.PrintMore
def MayS (x : S26) : Prop := MayP x.f0 x.f1
def Goods (l : List S26) : Prop := ∀ x ∈ l, Wds x.f1 ∧ x.f1.length ≤ 9223372036854775807
theorem Goods.of {l : List S26} (h : ∀ x ∈ l, good26 x) : Goods l := fun x hx => ⟨(h x hx).2.1, by have := (h x hx).2.2; omega⟩
def FitSays (n : Int) (l : List S26) (r : Int) : Prop :=
  (r = 61 ∧ ∃ x ∈ l, ¬ MayS x) ∨ (r = 60 ∧ (∀ x ∈ l, MayS x) ∧ ((n < 0 ∨ 4096 < n) ∨ ∃ x ∈ l, x.f0 ≠ n)) ∨ (r = 0 ∧ (∀ x ∈ l, MayS x) ∧ (∀ x ∈ l, x.f0 = n) ∧ 0 ≤ n ∧ n ≤ 4096)
theorem FitSays.eq {n : Int} {l : List S26} {r q : Int} (h : FitSays n l r) (k : FitSays n l q) : r = q := by
  rcases h with ⟨rfl, x, h1, h2⟩ | ⟨rfl, h1, h2⟩ | ⟨rfl, h1, h2, h3, h4⟩ <;> rcases k with ⟨rfl, y, k1, k2⟩ | ⟨rfl, k1, k2⟩ | ⟨rfl, k1, k2, k3, k4⟩
  · rfl
  · exact absurd (k1 x h1) h2
  · exact absurd (k1 x h1) h2
  · exact absurd (h1 y k1) k2
  · rfl
  · rcases h2 with h2 | ⟨x, h2, h3⟩
    · omega
    · exact absurd (k2 x h2) h3
  · exact absurd (h1 y k1) k2
  · rcases k2 with k2 | ⟨x, k2, k3⟩
    · omega
    · exact absurd (h2 x k2) k3
  · rfl
end Go.Proofs.Ytjmkhdhffmlhiaa.PAll
end
section
namespace Go.Proofs.Ytjmkhdhffmlhiaa.PAll
open Go.RowKit Go.Proofs.YtjmkhdhffmlhiaaW.PrintWords Go.Proofs.YtjmkhdhffmlhiaaW.PrintMore
structure Bitly (g : Int → Int → Int) (f : Bool → Bool → Bool) : Prop where
  wd : ∀ a b, Wd a → Wd b → Wd (g a b)
  tb : ∀ a b j, Wd a → Wd b → tb (g a b) j = f (tb a j) (tb b j)
  ff : f false false = false
theorem bitly_and : Bitly (Go.bits .and .u64) (fun a b => a && b) := ⟨fun a b _ _ => (and_eq a b).2, fun _ _ j ha hb => tb_and ha hb j, rfl⟩
theorem bitly_andNot : Bitly (Go.bits .andNot .u64) (fun a b => a && !b) := ⟨fun a b _ _ => (andNot_eq a b).2, fun _ _ j ha hb => tb_andNot ha hb j, rfl⟩
theorem bitly_xor : Bitly (Go.bits .xor .u64) (fun a b => a != b) := ⟨fun a b _ _ => (xor_eq a b).2, fun _ _ j ha hb => tb_xor ha hb j, rfl⟩
theorem hb_zip {g : Int → Int → Int} {f : Bool → Bool → Bool} (h : Bitly g f) {b ws : List Int} (hb' : Wds b) (hw : Wds ws) (hl : ws.length = b.length) (e : Nat) : hb (List.zipWith g b ws) e = f (hb b e) (hb ws e) := by
  rcases Nat.lt_or_ge (e / 64) b.length with h1 | h1
  · have h2 : (List.zipWith g b ws).getD (e / 64) 0 = g (b.getD (e / 64) 0) (ws.getD (e / 64) 0) := by
      rw [List.getD_eq_getElem?_getD, List.getD_eq_getElem?_getD, List.getD_eq_getElem?_getD, List.getElem?_zipWith, List.getElem?_eq_getElem h1, List.getElem?_eq_getElem (by omega)]
      rfl
    unfold hb
    rw [h2, h.tb _ _ _ (hb'.getD _) (hw.getD _)]
  · rw [hb_high (ws := b) (by omega), hb_high (ws := ws) (by omega), hb_high (by rw [List.length_zipWith]; omega), h.ff]
theorem zip_Wds {g : Int → Int → Int} {f : Bool → Bool → Bool} (h : Bitly g f) {b ws : List Int} (hb' : Wds b) (hw : Wds ws) : Wds (List.zipWith g b ws) := by
  intro x hx
  obtain ⟨i, hi, rfl⟩ := List.getElem_of_mem hx
  rw [List.getElem_zipWith]
  rw [List.length_zipWith] at hi
  exact h.wd _ _ (hb' _ (List.getElem_mem _)) (hw _ (List.getElem_mem _))
theorem foldw_is {g : Int → Int → Int} {f : Bool → Bool → Bool} (h : Bitly g f) {n : Nat} {p q : Nat → Bool} {b ws : List Int} (hb' : Is n p b) (hw : Is n q ws) : ∃ c, foldw g b ws = some c ∧ Is n (fun d => f (p d) (q d)) c := by
  have hl : ws.length = b.length := by rw [hw.len, hb'.len]
  refine ⟨List.zipWith g b ws, ?_, ?_, zip_Wds h hb'.wds hw.wds, fun e => ?_⟩
  · unfold foldw
    rw [if_pos (by omega), List.drop_eq_nil_of_le (by omega), List.append_nil]
  · rw [List.length_zipWith, hl, Nat.min_self, hb'.len]
  · rw [hb_zip h hb'.wds hw.wds hl, hb'.has, hw.has]
    by_cases he : e < n
    · simp [he]
    · simp [he, h.ff]
end Go.Proofs.Ytjmkhdhffmlhiaa.PAll
end
section
namespace Go.Proofs.Ytjmkhdhffmlhiaa.PAll
open Go.RowKit Go.Proofs.YtjmkhdhffmlhiaaW.PrintWords Go.Proofs.YtjmkhdhffmlhiaaW.PrintMore
theorem and_split (i x y v m : Nat) (hx : x < 2 ^ i) (hy : y < 2 ^ i) : (2 ^ i * v + x) &&& (2 ^ i * m + y) = 2 ^ i * (v &&& m) + (x &&& y) := by
  have hxy : x &&& y < 2 ^ i := Nat.and_lt_two_pow _ hy
  apply Nat.eq_of_testBit_eq
  intro j
  rw [Nat.testBit_and, Nat.testBit_two_pow_mul_add _ hx, Nat.testBit_two_pow_mul_add _ hy, Nat.testBit_two_pow_mul_add _ hxy]
  by_cases h : j < i
  · simp [h]
  · simp [h]
def grp : List Nat → List (Nat × Nat)
  | a :: b :: l => (a, b) :: grp l
  | _ => []
def halve (l : List Nat) : List Nat := (grp l).map (fun p => p.1 + p.2)
theorem halve_sum : ∀ (n : Nat) (l : List Nat), l.length = 2 * n → (halve l).sum = l.sum ∧ (halve l).length = n
  | 0, [], _ => ⟨rfl, rfl⟩
  | 0, _ :: _, h => by simp at h
  | n + 1, a :: b :: l, h => by
    obtain ⟨h1, h2⟩ := halve_sum n l (by simp at h; omega)
    have h3 : halve (a :: b :: l) = (a + b) :: halve l := rfl
    rw [h3, List.sum_cons, List.sum_cons, List.sum_cons, List.length_cons, h1, h2]
    exact ⟨by omega, rfl⟩
  | n + 1, [_], h => by simp at h; omega
  | n + 1, [], h => by simp at h
theorem halve_le {m : Nat} : ∀ (n : Nat) (l : List Nat), l.length = 2 * n → (∀ x ∈ l, x ≤ m) → ∀ x ∈ halve l, x ≤ 2 * m
  | 0, [], _, _ => by intro x hx; cases hx
  | 0, _ :: _, h, _ => by simp at h
  | n + 1, a :: b :: l, h, hm => by
    have h3 : halve (a :: b :: l) = (a + b) :: halve l := rfl
    rw [h3]
    intro x hx
    rcases List.mem_cons.1 hx with rfl | hx
    · have := hm a (by simp); have := hm b (by simp); omega
    · exact halve_le n l (by simp at h; omega) (fun y hy => hm y (by simp [hy])) x hx
  | n + 1, [_], h, _ => by simp at h; omega
  | n + 1, [], h, _ => by simp at h
def val2 : List Nat → Nat
  | [] => 0
  | d :: l => 2 * val2 l + d
def val4 : List Nat → Nat
  | [] => 0
  | d :: l => 4 * val4 l + d
def val16 : List Nat → Nat
  | [] => 0
  | d :: l => 16 * val16 l + d
def val256 : List Nat → Nat
  | [] => 0
  | d :: l => 256 * val256 l + d
def mask2 : Nat → Nat
  | 0 => 0
  | n + 1 => 4 * mask2 n + 1
theorem low2 (w m a b : Nat) (ha : a < 2) (hb : b < 2) : (4 * w + (2 * b + a)) &&& (4 * m + 1) = 4 * (w &&& m) + a := by
  have h := and_split 2 (2 * b + a) 1 w m (by omega) (by omega)
  have h2 : (2 * b + a) &&& 1 = a := by
    have := Nat.and_two_pow_sub_one_eq_mod (2 * b + a) 1
    rw [show 2 ^ 1 - 1 = 1 from rfl] at this
    rw [this]; omega
  rw [h2] at h
  exact h
def mask4 : Nat → Nat
  | 0 => 0
  | n + 1 => 16 * mask4 n + 3
theorem low4 (w m a b : Nat) (ha : a < 4) (hb : b < 4) : (16 * w + (4 * b + a)) &&& (16 * m + 3) = 16 * (w &&& m) + a := by
  have h := and_split 4 (4 * b + a) 3 w m (by omega) (by omega)
  have h2 : (4 * b + a) &&& 3 = a := by
    have := Nat.and_two_pow_sub_one_eq_mod (4 * b + a) 2
    rw [show 2 ^ 2 - 1 = 3 from rfl] at this
    rw [this]; omega
  rw [h2] at h
  exact h
def mask16 : Nat → Nat
  | 0 => 0
  | n + 1 => 256 * mask16 n + 15
theorem low16 (w m a b : Nat) (ha : a < 16) (hb : b < 16) : (256 * w + (16 * b + a)) &&& (256 * m + 15) = 256 * (w &&& m) + a := by
  have h := and_split 8 (16 * b + a) 15 w m (by omega) (by omega)
  have h2 : (16 * b + a) &&& 15 = a := by
    have := Nat.and_two_pow_sub_one_eq_mod (16 * b + a) 4
    rw [show 2 ^ 4 - 1 = 15 from rfl] at this
    rw [this]; omega
  rw [h2] at h
  exact h
theorem firsts2 : ∀ (n : Nat) (l : List Nat), l.length = 2 * n → (∀ x ∈ l, x < 2) → val2 l &&& mask2 n = val4 ((grp l).map Prod.fst)
  | 0, [], _, _ => rfl
  | 0, _ :: _, h, _ => by simp at h
  | n + 1, a :: b :: l, h, hm => by
    have h1 := firsts2 n l (by simp at h; omega) (fun y hy => hm y (by simp [hy]))
    have h2 := low2 (val2 l) (mask2 n) a b (hm a (by simp)) (hm b (by simp))
    have h3 : val2 (a :: b :: l) = 4 * val2 l + (2 * b + a) := by simp only [val2]; omega
    have h4 : val4 ((grp (a :: b :: l)).map Prod.fst) = 4 * val4 ((grp l).map Prod.fst) + a := rfl
    rw [h3, h4, mask2, h2, h1]
  | n + 1, [_], h, _ => by simp at h; omega
  | n + 1, [], h, _ => by simp at h
theorem seconds2 : ∀ (n : Nat) (l : List Nat), l.length = 2 * n → (∀ x ∈ l, x < 2) → ∀ c, c < 2 → (2 * val2 l + c) &&& mask2 (n + 1) = 4 * val4 ((grp l).map Prod.snd) + c
  | 0, [], _, _ => by
    intro c hc
    have h2 := low2 0 0 c 0 hc (by omega)
    simpa [val2, val4, mask2, grp] using h2
  | 0, _ :: _, h, _ => by simp at h
  | n + 1, a :: b :: l, h, hm => by
    intro c hc
    have h1 := seconds2 n l (by simp at h; omega) (fun y hy => hm y (by simp [hy])) b (hm b (by simp))
    have h2 := low2 (2 * val2 l + b) (mask2 (n + 1)) c a hc (hm a (by simp))
    have h3 : 2 * val2 (a :: b :: l) + c = 4 * (2 * val2 l + b) + (2 * a + c) := by simp only [val2]; omega
    have h4 : val4 ((grp (a :: b :: l)).map Prod.snd) = 4 * val4 ((grp l).map Prod.snd) + b := rfl
    rw [h3, h4, mask2, h2, h1]
  | n + 1, [_], h, _ => by simp at h; omega
  | n + 1, [], h, _ => by simp at h
theorem sums4 : ∀ l : List (Nat × Nat), val4 (l.map Prod.snd) + val4 (l.map Prod.fst) = val4 (l.map (fun p => p.1 + p.2))
  | [] => rfl
  | p :: l => by
    have := sums4 l
    simp only [List.map_cons, val4]
    omega
theorem both2 (n : Nat) (l : List Nat) (hl : l.length = 2 * n) (hm : ∀ x ∈ l, x < 2) : (val2 l / 2 &&& mask2 n) + (val2 l &&& mask2 n) = val4 (halve l) := by
  rw [firsts2 n l hl hm, halve, ← sums4]
  congr 1
  match n, l, hl, hm with
  | 0, [], _, _ => rfl
  | n + 1, a :: b :: l, hl, hm =>
    have h1 := seconds2 n l (by simp at hl; omega) (fun y hy => hm y (by simp [hy])) b (hm b (by simp))
    have ha := hm a (by simp)
    have h3 : val2 (a :: b :: l) / 2 = 2 * val2 l + b := by simp only [val2]; omega
    rw [h3, h1]; rfl
  | n + 1, [_], hl, _ => simp at hl; omega
theorem firsts4 : ∀ (n : Nat) (l : List Nat), l.length = 2 * n → (∀ x ∈ l, x < 4) → val4 l &&& mask4 n = val16 ((grp l).map Prod.fst)
  | 0, [], _, _ => rfl
  | 0, _ :: _, h, _ => by simp at h
  | n + 1, a :: b :: l, h, hm => by
    have h1 := firsts4 n l (by simp at h; omega) (fun y hy => hm y (by simp [hy]))
    have h2 := low4 (val4 l) (mask4 n) a b (hm a (by simp)) (hm b (by simp))
    have h3 : val4 (a :: b :: l) = 16 * val4 l + (4 * b + a) := by simp only [val4]; omega
    have h4 : val16 ((grp (a :: b :: l)).map Prod.fst) = 16 * val16 ((grp l).map Prod.fst) + a := rfl
    rw [h3, h4, mask4, h2, h1]
  | n + 1, [_], h, _ => by simp at h; omega
  | n + 1, [], h, _ => by simp at h
theorem seconds4 : ∀ (n : Nat) (l : List Nat), l.length = 2 * n → (∀ x ∈ l, x < 4) → ∀ c, c < 4 → (4 * val4 l + c) &&& mask4 (n + 1) = 16 * val16 ((grp l).map Prod.snd) + c
  | 0, [], _, _ => by
    intro c hc
    have h2 := low4 0 0 c 0 hc (by omega)
    simpa [val4, val16, mask4, grp] using h2
  | 0, _ :: _, h, _ => by simp at h
  | n + 1, a :: b :: l, h, hm => by
    intro c hc
    have h1 := seconds4 n l (by simp at h; omega) (fun y hy => hm y (by simp [hy])) b (hm b (by simp))
    have h2 := low4 (4 * val4 l + b) (mask4 (n + 1)) c a hc (hm a (by simp))
    have h3 : 4 * val4 (a :: b :: l) + c = 16 * (4 * val4 l + b) + (4 * a + c) := by simp only [val4]; omega
    have h4 : val16 ((grp (a :: b :: l)).map Prod.snd) = 16 * val16 ((grp l).map Prod.snd) + b := rfl
    rw [h3, h4, mask4, h2, h1]
  | n + 1, [_], h, _ => by simp at h; omega
  | n + 1, [], h, _ => by simp at h
theorem sums16 : ∀ l : List (Nat × Nat), val16 (l.map Prod.snd) + val16 (l.map Prod.fst) = val16 (l.map (fun p => p.1 + p.2))
  | [] => rfl
  | p :: l => by
    have := sums16 l
    simp only [List.map_cons, val16]
    omega
theorem both4 (n : Nat) (l : List Nat) (hl : l.length = 2 * n) (hm : ∀ x ∈ l, x < 4) : (val4 l / 4 &&& mask4 n) + (val4 l &&& mask4 n) = val16 (halve l) := by
  rw [firsts4 n l hl hm, halve, ← sums16]
  congr 1
  match n, l, hl, hm with
  | 0, [], _, _ => rfl
  | n + 1, a :: b :: l, hl, hm =>
    have h1 := seconds4 n l (by simp at hl; omega) (fun y hy => hm y (by simp [hy])) b (hm b (by simp))
    have ha := hm a (by simp)
    have h3 : val4 (a :: b :: l) / 4 = 4 * val4 l + b := by simp only [val4]; omega
    rw [h3, h1]; rfl
  | n + 1, [_], hl, _ => simp at hl; omega
theorem third : ∀ (n : Nat) (l : List Nat), l.length = 2 * n → (∀ x ∈ l, x ≤ 4) → val16 l % 16 ≤ 4 ∧ (val16 l / 16 + val16 l) &&& mask16 n = val256 (halve l)
  | 0, [], _, _ => ⟨by simp [val16], rfl⟩
  | 0, _ :: _, h, _ => by simp at h
  | n + 1, a :: b :: l, h, hm => by
    obtain ⟨h0, h1⟩ := third n l (by simp at h; omega) (fun y hy => hm y (by simp [hy]))
    have ha := hm a (by simp)
    have hb := hm b (by simp)
    have h5 : val16 (a :: b :: l) = 256 * val16 l + (16 * b + a) := by simp only [val16]; omega
    have h2 := low16 (val16 l / 16 + val16 l) (mask16 n) (a + b) (b + val16 l % 16) (by omega) (by omega)
    have h3 : val16 (a :: b :: l) / 16 + val16 (a :: b :: l) = 256 * (val16 l / 16 + val16 l) + (16 * (b + val16 l % 16) + (a + b)) := by
      rw [h5]
      clear h1 h2 h5
      generalize val16 l = v at h0 ⊢
      omega
    have h4 : val256 (halve (a :: b :: l)) = 256 * val256 (halve l) + (a + b) := rfl
    refine ⟨by rw [h5]; omega, ?_⟩
    rw [h3, h4, mask16, h2, h1]
  | n + 1, [_], h, _ => by simp at h; omega
  | n + 1, [], h, _ => by simp at h
def bitl : Nat → Nat → List Nat
  | 0, _ => []
  | n + 1, x => x % 2 :: bitl n (x / 2)
theorem bitl_len : ∀ n x, (bitl n x).length = n
  | 0, _ => rfl
  | n + 1, x => by simp [bitl, bitl_len n]
theorem bitl_lt : ∀ n x, ∀ d ∈ bitl n x, d < 2
  | 0, _ => by intro d hd; cases hd
  | n + 1, x => by
    intro d hd
    rcases List.mem_cons.1 hd with rfl | hd
    · omega
    · exact bitl_lt n _ d hd
theorem bitl_val : ∀ n x, val2 (bitl n x) = x % 2 ^ n
  | 0, x => by simp [bitl, val2, Nat.mod_one]
  | n + 1, x => by
    have h := bitl_val n (x / 2)
    simp only [bitl, val2, h]
    rw [Nat.pow_succ, Nat.mul_comm (2 ^ n) 2, Nat.mod_mul]
    omega
def pc (x : Nat) : Nat := (bitl 64 x).sum
theorem pc_bits (x : Nat) : pc x = ((List.range 64).map (fun j => (x.testBit j).toNat)).sum := by
  have key : ∀ n x, bitl n x = (List.range n).map (fun j => (Nat.testBit x j).toNat) := by
    intro n
    induction n with
    | zero => intro x; rfl
    | succ n ih =>
      intro x
      rw [bitl, ih, List.range_succ_eq_map, List.map_cons, List.map_map]
      congr 1
      · rw [Nat.testBit_zero]
        rcases Nat.mod_two_eq_zero_or_one x with h | h <;> simp [h]
      · apply List.map_congr_left
        intro j _
        simp only [Function.comp]
        rw [Nat.testBit_succ]
  unfold pc
  rw [key]
theorem eight : ∀ l : List Nat, l.length = 8 → (∀ x ∈ l, x ≤ 8) → ∀ a4 a5 a6 : Nat, a4 = val256 l + val256 l / 256 → a5 = a4 + a4 / 65536 → a6 = a5 + a5 / 4294967296 → a4 < 2 ^ 63 ∧ a5 < 2 ^ 63 ∧ a6 < 2 ^ 63 ∧ a6 % 128 = l.sum := by
  intro l hl hm a4 a5 a6 h4 h5 h6
  match l, hl, hm with
  | [e0, e1, e2, e3, e4, e5, e6, e7], _, hm =>
    have g0 := hm e0 (by simp)
    have g1 := hm e1 (by simp)
    have g2 := hm e2 (by simp)
    have g3 := hm e3 (by simp)
    have g4 := hm e4 (by simp)
    have g5 := hm e5 (by simp)
    have g6 := hm e6 (by simp)
    have g7 := hm e7 (by simp)
    clear hm
    simp only [val256] at h4
    simp only [List.sum_cons, List.sum_nil]
    have k4 : a4 = (e0 + e1) + 256 * (e1 + e2) + 65536 * (e2 + e3) + 16777216 * (e3 + e4) + 4294967296 * (e4 + e5) + 1099511627776 * (e5 + e6) + 281474976710656 * (e6 + e7) + 72057594037927936 * e7 := by omega
    clear h4
    have k5 : a5 = (e0 + e1 + e2 + e3) + 256 * (e1 + e2 + e3 + e4) + 65536 * (e2 + e3 + e4 + e5) + 16777216 * (e3 + e4 + e5 + e6) + 4294967296 * (e4 + e5 + e6 + e7) + 1099511627776 * (e5 + e6 + e7) + 281474976710656 * (e6 + e7) + 72057594037927936 * e7 := by omega
    have k6 : a6 = (e0 + e1 + e2 + e3 + e4 + e5 + e6 + e7) + 256 * (e1 + e2 + e3 + e4 + e5 + e6 + e7) + 65536 * (e2 + e3 + e4 + e5 + e6 + e7) + 16777216 * (e3 + e4 + e5 + e6 + e7) + 4294967296 * (e4 + e5 + e6 + e7) + 1099511627776 * (e5 + e6 + e7) + 281474976710656 * (e6 + e7) + 72057594037927936 * e7 := by
      clear k4 h5
      omega
    clear h5 h6
    refine ⟨by omega, by omega, by omega, ?_⟩
    clear k4 k5
    omega
theorem and_nat (a b : Nat) (ha : a < 2 ^ 64) (hb : b < 2 ^ 64) : Go.bits .and .u64 (a : Int) (b : Int) = ((a &&& b : Nat) : Int) := by
  rw [(and_eq _ _).1, BitVec.toNat_and]
  congr 1
  have h1 : (BitVec.ofInt 64 (a : Int)).toNat = a := by rw [BitVec.toNat_ofInt]; omega
  have h2 : (BitVec.ofInt 64 (b : Int)).toNat = b := by rw [BitVec.toNat_ofInt]; omega
  rw [h1, h2]
theorem wrap_nat (a : Nat) (ha : a < 2 ^ 64) : IntKind.u64.wrap (a : Int) = (a : Int) := wraps_u64 _ (Wd.of ha)
theorem and127 (a : Nat) (ha : a < 2 ^ 63) : Go.bits .and .i64 (a : Int) 127 = ((a % 128 : Nat) : Int) := by
  have h0 : Go.bits .and .i64 (a : Int) 127 = IntKind.i64.wrap ((BitVec.ofInt 64 (a : Int) &&& BitVec.ofInt 64 127).toNat : Int) := rfl
  have h1 : (BitVec.ofInt 64 (a : Int)).toNat = a := by rw [BitVec.toNat_ofInt]; omega
  have h2 : (BitVec.ofInt 64 127).toNat = 127 := rfl
  have h3 := Nat.and_two_pow_sub_one_eq_mod a 7
  rw [h0, BitVec.toNat_and, h1, h2, show (127 : Nat) = 2 ^ 7 - 1 from rfl, h3]
  simp only [IntKind.wrap, IntKind.bits, IntKind.signed]
  have : a % 2 ^ 7 < 128 := Nat.mod_lt _ (by decide)
  rw [show a % 2 ^ 7 = a % 128 from rfl] at this ⊢
  generalize a % 128 = z at this ⊢
  simp
  omega
theorem ones_eq {x : Int} (hx : Wd x) : bits_OnesCount64.f x = some (pc x.toNat : Int) := by
  obtain ⟨hx1, hx2⟩ := hx.nat
  obtain ⟨n, hn⟩ : ∃ n, x.toNat = n := ⟨_, rfl⟩
  rw [hn] at hx1 hx2
  rw [hn, ← hx2]
  clear hn hx2 hx
  have l0 := bitl_len 64 n
  have b0 := bitl_lt 64 n
  have v0 : val2 (bitl 64 n) = n := by rw [bitl_val]; exact Nat.mod_eq_of_lt hx1
  obtain ⟨s1, l1⟩ := halve_sum 32 _ l0
  have b1 := halve_le (m := 1) 32 _ l0 (fun x hx => by have := b0 x hx; omega)
  obtain ⟨s2, l2⟩ := halve_sum 16 _ l1
  have b2 := halve_le (m := 2) 16 _ l1 b1
  obtain ⟨s3, l3⟩ := halve_sum 8 _ l2
  have b3 := halve_le (m := 4) 8 _ l2 b2
  have e1 := both2 32 _ l0 b0
  have e2 := both4 16 _ l1 (fun x hx => by have := b1 x hx; omega)
  have e3 := (third 8 _ l2 b2).2
  rw [show mask2 32 = 6148914691236517205 from rfl, v0] at e1
  rw [show mask4 16 = 3689348814741910323 from rfl] at e2
  rw [show mask16 8 = 1085102592571150095 from rfl] at e3
  obtain ⟨y1, hy1⟩ : ∃ y, val4 (halve (bitl 64 n)) = y := ⟨_, rfl⟩
  obtain ⟨y2, hy2⟩ : ∃ y, val16 (halve (halve (bitl 64 n))) = y := ⟨_, rfl⟩
  obtain ⟨y3, hy3⟩ : ∃ y, val256 (halve (halve (halve (bitl 64 n)))) = y := ⟨_, rfl⟩
  rw [hy1] at e1 e2
  rw [hy2] at e2 e3
  rw [hy3] at e3
  have p1 : n / 2 &&& 6148914691236517205 ≤ 6148914691236517205 := Nat.and_le_right
  have p2 : n &&& 6148914691236517205 ≤ 6148914691236517205 := Nat.and_le_right
  have p3 : y1 / 4 &&& 3689348814741910323 ≤ 3689348814741910323 := Nat.and_le_right
  have p4 : y1 &&& 3689348814741910323 ≤ 3689348814741910323 := Nat.and_le_right
  have p5 : (y2 / 16 + y2) &&& 1085102592571150095 ≤ 1085102592571150095 := Nat.and_le_right
  have z1 : y1 < 2 ^ 64 := by omega
  have z2 : y2 < 8 * 2 ^ 60 := by omega
  obtain ⟨q4, q5, q6, q7⟩ := eight _ l3 b3 _ _ _ rfl rfl rfl
  rw [hy3, s3, s2, s1] at q7
  rw [hy3] at q4 q5 q6
  have q8 : y3 < 2 ^ 63 := by omega
  clear b0 b1 b2 b3 l0 l1 l2 l3 s1 s2 s3 hy1 hy2 hy3 v0
  have f1 : IntKind.u64.wrap (Go.bits .and .u64 ((n : Int) / 2) 6148914691236517205 + Go.bits .and .u64 (n : Int) 6148914691236517205) = (y1 : Int) := by
    have a1 := and_nat (n / 2) 6148914691236517205 (by omega) (by omega)
    have a2 := and_nat n 6148914691236517205 hx1 (by omega)
    rw [show ((n / 2 : Nat) : Int) = (n : Int) / 2 by omega] at a1
    have : (((6148914691236517205 : Nat)) : Int) = 6148914691236517205 := rfl
    rw [this] at a1 a2
    rw [a1, a2, ← Int.natCast_add, e1, wrap_nat _ z1]
  have f2 : IntKind.u64.wrap (Go.bits .and .u64 ((y1 : Int) / 4) 3689348814741910323 + Go.bits .and .u64 (y1 : Int) 3689348814741910323) = (y2 : Int) := by
    have a1 := and_nat (y1 / 4) 3689348814741910323 (by omega) (by omega)
    have a2 := and_nat y1 3689348814741910323 z1 (by omega)
    rw [show ((y1 / 4 : Nat) : Int) = (y1 : Int) / 4 by omega] at a1
    have : (((3689348814741910323 : Nat)) : Int) = 3689348814741910323 := rfl
    rw [this] at a1 a2
    rw [a1, a2, ← Int.natCast_add, e2, wrap_nat _ (by omega)]
  have f3 : Go.bits .and .u64 (IntKind.u64.wrap ((y2 : Int) / 16 + (y2 : Int))) 1085102592571150095 = (y3 : Int) := by
    have a1 := and_nat (y2 / 16 + y2) 1085102592571150095 (by omega) (by omega)
    rw [show ((y2 / 16 + y2 : Nat) : Int) = (y2 : Int) / 16 + (y2 : Int) by omega] at a1
    have : (((1085102592571150095 : Nat)) : Int) = 1085102592571150095 := rfl
    rw [this] at a1
    have w1 : IntKind.u64.wrap ((y2 : Int) / 16 + (y2 : Int)) = (y2 : Int) / 16 + (y2 : Int) := wraps_u64 _ (by unfold Wd; omega)
    rw [w1, a1, e3]
  have f4 : IntKind.u64.wrap ((y3 : Int) + (y3 : Int) / 256) = ((y3 + y3 / 256 : Nat) : Int) := by
    rw [wraps_u64 _ (by unfold Wd; omega)]; omega
  unfold bits_OnesCount64.f
  rw [f1, f2, f3, f4]
  obtain ⟨y4, hy4⟩ : ∃ y, y3 + y3 / 256 = y := ⟨_, rfl⟩
  rw [hy4] at q4 q5 q6 q7 ⊢
  have f5 : IntKind.u64.wrap ((y4 : Int) + (y4 : Int) / 65536) = ((y4 + y4 / 65536 : Nat) : Int) := by
    rw [wraps_u64 _ (by unfold Wd; omega)]; omega
  rw [f5]
  obtain ⟨y5, hy5⟩ : ∃ y, y4 + y4 / 65536 = y := ⟨_, rfl⟩
  rw [hy5] at q5 q6 q7 ⊢
  have f6 : IntKind.u64.wrap ((y5 : Int) + (y5 : Int) / 4294967296) = ((y5 + y5 / 4294967296 : Nat) : Int) := by
    rw [wraps_u64 _ (by unfold Wd; omega)]; omega
  rw [f6]
  obtain ⟨y6, hy6⟩ : ∃ y, y5 + y5 / 4294967296 = y := ⟨_, rfl⟩
  rw [hy6] at q6 q7 ⊢
  rw [w64_nat (by omega) (by omega), and127 _ q6, q7]
  rfl
end Go.Proofs.Ytjmkhdhffmlhiaa.PAll
end
section
namespace Go.Proofs.Ytjmkhdhffmlhiaa.PAll
set_option linter.unusedVariables false
open Go.RowKit Go.Proofs.YtjmkhdhffmlhiaaW.PrintWords Go.Proofs.YtjmkhdhffmlhiaaW.PrintMore
def cnt (ws : List Int) : Nat := (ws.map (fun x => pc x.toNat)).sum
theorem cnt_cons (x : Int) (l : List Int) : cnt (x :: l) = pc x.toNat + cnt l := by unfold cnt; rw [List.map_cons, List.sum_cons]
theorem cnt_drop {ws : List Int} {i z : Nat} (h : i < ws.length) (hz : pc (ws[i]).toNat = z) : cnt (ws.drop i) = z + cnt (ws.drop (i + 1)) := by rw [List.drop_eq_getElem_cons h, cnt_cons, hz]
theorem sum_le (f : Nat → Nat) (h : ∀ j, f j ≤ 1) : ∀ n, ((List.range n).map f).sum ≤ n
  | 0 => by simp
  | n + 1 => by
    rw [List.range_succ, List.map_append, List.sum_append]
    have := sum_le f h n
    have := h n
    simp only [List.map_cons, List.map_nil, List.sum_cons, List.sum_nil]
    omega
theorem pc_le (x : Nat) : pc x ≤ 64 := by
  rw [pc_bits]
  exact sum_le _ (fun j => by cases Nat.testBit x j <;> simp) 64
theorem sum_zero (l : List Nat) : l.sum = 0 ↔ ∀ x ∈ l, x = 0 := by
  induction l with
  | nil => simp
  | cons a l ih =>
    rw [List.sum_cons]
    constructor
    · intro h x hx
      rcases List.mem_cons.1 hx with rfl | hx
      · omega
      · exact ih.1 (by omega) x hx
    · intro h
      have h1 := h a (by simp)
      have h2 := ih.2 (fun x hx => h x (by simp [hx]))
      omega
theorem pc_zero {x : Int} (hx : Wd x) : pc x.toNat = 0 ↔ ∀ j, tb x j = false := by
  rw [pc_bits, sum_zero]
  constructor
  · intro h j
    rcases Nat.lt_or_ge j 64 with hj | hj
    · have := h _ (List.mem_map.2 ⟨j, List.mem_range.2 hj, rfl⟩)
      unfold tb
      cases h2 : x.toNat.testBit j
      · rfl
      · rw [h2] at this; simp at this
    · exact tb_high hx hj
  · intro h y hy
    obtain ⟨j, _, rfl⟩ := List.mem_map.1 hy
    have := h j
    unfold tb at this
    rw [this]; rfl
theorem cnt_zero {ws : List Int} (hw : Wds ws) : cnt ws = 0 ↔ ∀ e, hb ws e = false := by
  unfold cnt
  rw [sum_zero]
  constructor
  · intro h e
    unfold hb
    rcases Nat.lt_or_ge (e / 64) ws.length with h1 | h1
    · rw [List.getD_eq_getElem?_getD, List.getElem?_eq_getElem h1]
      exact (pc_zero (hw _ (List.getElem_mem h1))).1 (h _ (List.mem_map.2 ⟨_, List.getElem_mem h1, rfl⟩)) _
    · rw [List.getD_eq_getElem?_getD, List.getElem?_eq_none h1]; exact tb_zero _
  · intro h y hy
    obtain ⟨x, hx, rfl⟩ := List.mem_map.1 hy
    obtain ⟨i, hi, rfl⟩ := List.getElem_of_mem hx
    refine (pc_zero (hw _ hx)).2 fun j => ?_
    rcases Nat.lt_or_ge j 64 with hj | hj
    · have := h (64 * i + j)
      unfold hb at this
      rw [show (64 * i + j) / 64 = i by omega, show (64 * i + j) % 64 = j by omega, List.getD_eq_getElem?_getD, List.getElem?_eq_getElem hi] at this
      exact this
    · exact tb_high (hw _ hx) hj
theorem Count_l0 (n : Int) (ws : List Int) (hw : Wds ws) (hl : ws.length ≤ 64) : ∀ d i c : Nat, i + d = ws.length → c ≤ 64 * i → Ev (fun k => bitset_Count.l0 k (c : Int) ws (ws.length : Int) (i : Int)) (((c + cnt (ws.drop i) : Nat) : Int)) := by
  intro d
  induction d with
  | zero =>
    intro i c hi hc
    refine ⟨1, fun k hk => ?_⟩
    obtain ⟨k, rfl⟩ : ∃ m, k = m + 1 := ⟨k - 1, by omega⟩
    simp only [bitset_Count.l0]
    rw [if_neg (by omega), List.drop_eq_nil_of_le (by omega)]
    simp [cnt]
  | succ d ih =>
    intro i c hi hc
    have hlt : i < ws.length := by omega
    have h4 : rd ws (i : Int) = ws[i] := by rw [rd_nat, List.getD_eq_getElem?_getD, List.getElem?_eq_getElem hlt]; rfl
    have h6 := ones_eq (hw _ (List.getElem_mem hlt))
    obtain ⟨z, h2, h3, h6⟩ : ∃ z, z ≤ 64 ∧ cnt (ws.drop i) = z + cnt (ws.drop (i + 1)) ∧ bits_OnesCount64.f ws[i] = some (z : Int) := ⟨_, pc_le _, cnt_drop hlt rfl, h6⟩
    have h5 := ih (i + 1) (c + z) (by omega) (by omega)
    rw [h3, ← Nat.add_assoc]
    refine Ev.step (fun k => ?_) h5
    conv => lhs; rw [bitset_Count.l0]
    rw [if_pos (by omega), if_pos (by omega), if_pos (by omega), h4, h6, Option.bind_some, show wrap64 ((i : Int) + 1) = ((i + 1 : Nat) : Int) by unfold wrap64; omega, ← Int.natCast_add, w64_nat (by omega) (by omega)]
theorem Count_eq {n : Int} {ws : List Int} (hw : Wds ws) (h : MayP n ws) : Ev (fun k => bitset_Count.f k n ws) (cnt ws : Int) := by
  have hlen : ws.length ≤ 64 := by have h1 := h.2.1; have h2 := h.2.2.1; omega
  refine Ev.congr (f := fun k => bitset_Count.l0 k ((0 : Nat) : Int) ws (ws.length : Int) ((0 : Nat) : Int)) (fun k => ?_) (by simpa using Count_l0 n ws hw hlen ws.length 0 0 (by omega) (by omega))
  unfold bitset_Count.f
  rw [May_eq n ws hw (by omega), may_true.2 h, Option.bind_some, if_pos rfl]; rfl
def TwoSays (f : Bool → Bool → Bool) (a : Int) (la : List Int) (b : Int) (lb : List Int) (r : Int × List Int × Int) : Prop :=
  (¬ (MayP a la ∧ MayP b lb) ∧ r = (0, [], 61)) ∨ (MayP a la ∧ MayP b lb ∧ ((a ≠ b ∧ r = (0, [], 60)) ∨ (a = b ∧ ∃ vs, Is a.toNat (fun d => f (hb la d) (hb lb d)) vs ∧ r = (a, vs, 0))))
theorem TwoSays.eq {f : Bool → Bool → Bool} {a b : Int} {la lb : List Int} {r q : Int × List Int × Int} (h : TwoSays f a la b lb r) (k : TwoSays f a la b lb q) : r = q := by
  rcases h with ⟨h1, rfl⟩ | ⟨h1, h2, ⟨h3, rfl⟩ | ⟨h3, vs, h4, rfl⟩⟩ <;> rcases k with ⟨k1, rfl⟩ | ⟨k1, k2, ⟨k3, rfl⟩ | ⟨k3, us, k4, rfl⟩⟩
  · rfl
  · exact absurd ⟨k1, k2⟩ h1
  · exact absurd ⟨k1, k2⟩ h1
  · exact absurd ⟨h1, h2⟩ k1
  · rfl
  · exact absurd k3 h3
  · exact absurd ⟨h1, h2⟩ k1
  · exact absurd h3 k3
  · rw [h4.eq k4 (fun _ _ => rfl)]
theorem TwoSays.bound {f : Bool → Bool → Bool} {a b : Int} {la lb : List Int} {s : Int} {vs : List Int} {c : Int} (h : TwoSays f a la b lb (s, vs, c)) : vs.length ≤ 9223372036854775807 := by
  rcases h with ⟨_, e⟩ | ⟨h1, _, ⟨_, e⟩ | ⟨_, us, h4, e⟩⟩
  · cases e; simp
  · cases e; simp
  · cases e; have := h1.2.1; rw [h4.len]; omega
def NoneP (f : Bool → Bool → Bool) (a : Int) (la : List Int) (b : Int) (lb : List Int) : Prop := MayP a la ∧ MayP b lb ∧ a = b ∧ ∀ d, f (hb la d) (hb lb d) = false
noncomputable def nonep (f : Bool → Bool → Bool) (a : Int) (la : List Int) (b : Int) (lb : List Int) : Bool := @decide (NoneP f a la b lb) (Classical.propDecidable _)
theorem nonep_true {f : Bool → Bool → Bool} {a b : Int} {la lb : List Int} : nonep f a la b lb = true ↔ NoneP f a la b lb := by unfold nonep; exact @decide_eq_true_iff _ (Classical.propDecidable _)
theorem nonep_of {f : Bool → Bool → Bool} {a b : Int} {la lb : List Int} {x : Bool} (h : x = true ↔ NoneP f a la b lb) : x = nonep f a la b lb := by rw [Bool.eq_iff_iff, h, nonep_true]
theorem two_and_eq (a : Int) (la : List Int) (b : Int) (lb : List Int) (hwa : Wds la) (hwb : Wds lb) (hla : la.length ≤ 9223372036854775807) (hlb : lb.length ≤ 9223372036854775807) :
    ∃ r, TwoSays (fun x y => x && y) a la b lb r ∧ Ev (fun k => bitset_two_and.f k a la b lb ()) r := by
  have ma := May_eq a la hwa hla
  have mb := May_eq b lb hwb hlb
  by_cases h : MayP a la ∧ MayP b lb
  · obtain ⟨h1, h2⟩ := h
    rw [may_true.2 h1] at ma
    rw [may_true.2 h2] at mb
    have e0 : ∀ k, bitset_two_and.f k a la b lb () = bitset_two_and.j0 k () false a la b lb := by
      intro k
      unfold bitset_two_and.f
      rw [ma, Option.bind_some, if_pos rfl, mb, Option.bind_some]; rfl
    by_cases hab : a = b
    · subst hab
      have i1 := h1.is hwa
      have i2 := h2.is hwb
      obtain ⟨c, h3, h4⟩ := foldw_is bitly_and i1 i2
      refine ⟨(a, c, 0), .inr ⟨h1, h2, .inr ⟨rfl, c, h4, rfl⟩⟩, Ev.congr e0 (Ev.step (f := fun _ => some (a, c, 0)) (fun k => ?_) (Ev.now _))⟩
      rw [bitset_two_and.j0]
      rw [if_neg (by simp), if_pos rfl, own_eq h1 hwa, Option.bind_some]
      unfold bitset_fold_and.f
      rw [folds, h3, Option.bind_some, folds]; rfl
    · refine ⟨(0, [], 60), .inr ⟨h1, h2, .inl ⟨hab, rfl⟩⟩, Ev.congr e0 (Ev.step (f := fun _ => some (0, [], 60)) (fun k => ?_) (Ev.now _))⟩
      rw [bitset_two_and.j0]
      rw [if_neg (by simp), if_neg hab]
  · refine ⟨(0, [], 61), .inl ⟨h, rfl⟩, Ev.congr (f := fun k => bitset_two_and.j0 k () true a la b lb) (fun k => ?_) (Ev.step (f := fun _ => some (0, [], 61)) (fun k => ?_) (Ev.now _))⟩
    · unfold bitset_two_and.f
      rw [ma, Option.bind_some]
      by_cases h1 : MayP a la
      · rw [may_true.2 h1, if_pos rfl, mb, Option.bind_some, may_false.2 (fun h2 => h ⟨h1, h2⟩)]; rfl
      · rw [may_false.2 h1, if_neg (by simp)]
    · rw [bitset_two_and.j0]
      rw [if_pos rfl]
theorem none_and_eq (a : Int) (la : List Int) (b : Int) (lb : List Int) (hwa : Wds la) (hwb : Wds lb) (hla : la.length ≤ 9223372036854775807) (hlb : lb.length ≤ 9223372036854775807) :
    Ev (fun k => bitset_none_and.f k a la b lb ()) (nonep (fun x y => x && y) a la b lb) := by
  obtain ⟨r, h1, h2⟩ := two_and_eq a la b lb hwa hwb hla hlb
  have key : ∀ v, Ev (fun k => if r.2.2 = 0 then ((bitset_Count.f k r.1 r.2.1).bind fun t109 => (some (t109 == 0))) else (some false)) v → Ev (fun k => bitset_none_and.f k a la b lb ()) v :=
    fun v hv => Ev.bind (f := fun k (bt103 : Int × List Int × Int) => (if bt103.2.2 = 0 then ((bitset_Count.f k bt103.1 bt103.2.1).bind fun t109 => (some (t109 == 0))) else (some false))) h2 hv
  apply key
  rcases h1 with ⟨h1, rfl⟩ | ⟨h1, k1, ⟨h3, rfl⟩ | ⟨h3, vs, h4, rfl⟩⟩
  · rw [← nonep_of (x := false) ⟨fun h => (by cases h), fun h => absurd ⟨h.1, h.2.1⟩ h1⟩]
    exact Ev.const fun k => by rw [if_neg (by decide)]
  · rw [← nonep_of (x := false) ⟨fun h => (by cases h), fun h => absurd h.2.2.1 h3⟩]
    exact Ev.const fun k => by rw [if_neg (by decide)]
  · obtain ⟨n, rfl⟩ := Int.eq_ofNat_of_zero_le h1.1
    rw [Int.toNat_natCast] at h4
    have h5 := h4.may (by have := h1.2.1; omega)
    have h6 : ((cnt vs : Int) == 0) = nonep (fun x y => x && y) (n : Int) la b lb := by
      refine nonep_of ?_
      have h7 : ∀ d, ((hb la d && hb lb d) = (hb la d && hb lb d)) := fun _ => rfl
      rw [beq_iff_eq]
      constructor
      · intro h
        refine ⟨h1, k1, h3, fun d => ?_⟩
        have h8 := (cnt_zero h4.wds).1 (by omega) d
        rw [h4.has] at h8
        by_cases hd : d < n
        · simpa [hd] using h8
        · have ha := h1.2.2.2 d (by rw [Int.toNat_natCast]; omega)
          have hb' := k1.2.2.2 d (by rw [← h3, Int.toNat_natCast]; omega)
          simp [ha, hb']
      · intro h
        have h8 : cnt vs = 0 := (cnt_zero h4.wds).2 fun d => by rw [h4.has, h.2.2.2 d]; simp
        omega
    rw [← h6]
    refine Ev.congr (f := fun k => (bitset_Count.f k (n : Int) vs).bind fun t109 => (some (t109 == 0))) (fun k => by rw [if_pos rfl]) (Ev.bind (f := fun _ t109 => some (t109 == 0)) (Count_eq h4.wds h5) (Ev.now _))
theorem two_andNot_eq (a : Int) (la : List Int) (b : Int) (lb : List Int) (hwa : Wds la) (hwb : Wds lb) (hla : la.length ≤ 9223372036854775807) (hlb : lb.length ≤ 9223372036854775807) :
    ∃ r, TwoSays (fun x y => x && !y) a la b lb r ∧ Ev (fun k => bitset_two_andNot.f k a la b lb ()) r := by
  have ma := May_eq a la hwa hla
  have mb := May_eq b lb hwb hlb
  by_cases h : MayP a la ∧ MayP b lb
  · obtain ⟨h1, h2⟩ := h
    rw [may_true.2 h1] at ma
    rw [may_true.2 h2] at mb
    have e0 : ∀ k, bitset_two_andNot.f k a la b lb () = bitset_two_andNot.j0 k () false a la b lb := by
      intro k
      unfold bitset_two_andNot.f
      rw [ma, Option.bind_some, if_pos rfl, mb, Option.bind_some]; rfl
    by_cases hab : a = b
    · subst hab
      have i1 := h1.is hwa
      have i2 := h2.is hwb
      obtain ⟨c, h3, h4⟩ := foldw_is bitly_andNot i1 i2
      refine ⟨(a, c, 0), .inr ⟨h1, h2, .inr ⟨rfl, c, h4, rfl⟩⟩, Ev.congr e0 (Ev.step (f := fun _ => some (a, c, 0)) (fun k => ?_) (Ev.now _))⟩
      rw [bitset_two_andNot.j0]
      rw [if_neg (by simp), if_pos rfl, own_eq h1 hwa, Option.bind_some]
      unfold bitset_fold_andNot.f
      rw [folds, h3, Option.bind_some, folds]; rfl
    · refine ⟨(0, [], 60), .inr ⟨h1, h2, .inl ⟨hab, rfl⟩⟩, Ev.congr e0 (Ev.step (f := fun _ => some (0, [], 60)) (fun k => ?_) (Ev.now _))⟩
      rw [bitset_two_andNot.j0]
      rw [if_neg (by simp), if_neg hab]
  · refine ⟨(0, [], 61), .inl ⟨h, rfl⟩, Ev.congr (f := fun k => bitset_two_andNot.j0 k () true a la b lb) (fun k => ?_) (Ev.step (f := fun _ => some (0, [], 61)) (fun k => ?_) (Ev.now _))⟩
    · unfold bitset_two_andNot.f
      rw [ma, Option.bind_some]
      by_cases h1 : MayP a la
      · rw [may_true.2 h1, if_pos rfl, mb, Option.bind_some, may_false.2 (fun h2 => h ⟨h1, h2⟩)]; rfl
      · rw [may_false.2 h1, if_neg (by simp)]
    · rw [bitset_two_andNot.j0]
      rw [if_pos rfl]
theorem none_andNot_eq (a : Int) (la : List Int) (b : Int) (lb : List Int) (hwa : Wds la) (hwb : Wds lb) (hla : la.length ≤ 9223372036854775807) (hlb : lb.length ≤ 9223372036854775807) :
    Ev (fun k => bitset_none_andNot.f k a la b lb ()) (nonep (fun x y => x && !y) a la b lb) := by
  obtain ⟨r, h1, h2⟩ := two_andNot_eq a la b lb hwa hwb hla hlb
  have key : ∀ v, Ev (fun k => if r.2.2 = 0 then ((bitset_Count.f k r.1 r.2.1).bind fun t109 => (some (t109 == 0))) else (some false)) v → Ev (fun k => bitset_none_andNot.f k a la b lb ()) v :=
    fun v hv => Ev.bind (f := fun k (bt103 : Int × List Int × Int) => (if bt103.2.2 = 0 then ((bitset_Count.f k bt103.1 bt103.2.1).bind fun t109 => (some (t109 == 0))) else (some false))) h2 hv
  apply key
  rcases h1 with ⟨h1, rfl⟩ | ⟨h1, k1, ⟨h3, rfl⟩ | ⟨h3, vs, h4, rfl⟩⟩
  · rw [← nonep_of (x := false) ⟨fun h => (by cases h), fun h => absurd ⟨h.1, h.2.1⟩ h1⟩]
    exact Ev.const fun k => by rw [if_neg (by decide)]
  · rw [← nonep_of (x := false) ⟨fun h => (by cases h), fun h => absurd h.2.2.1 h3⟩]
    exact Ev.const fun k => by rw [if_neg (by decide)]
  · obtain ⟨n, rfl⟩ := Int.eq_ofNat_of_zero_le h1.1
    rw [Int.toNat_natCast] at h4
    have h5 := h4.may (by have := h1.2.1; omega)
    have h6 : ((cnt vs : Int) == 0) = nonep (fun x y => x && !y) (n : Int) la b lb := by
      refine nonep_of ?_
      have h7 : ∀ d, ((hb la d && hb lb d) = (hb la d && hb lb d)) := fun _ => rfl
      rw [beq_iff_eq]
      constructor
      · intro h
        refine ⟨h1, k1, h3, fun d => ?_⟩
        have h8 := (cnt_zero h4.wds).1 (by omega) d
        rw [h4.has] at h8
        by_cases hd : d < n
        · simpa [hd] using h8
        · have ha := h1.2.2.2 d (by rw [Int.toNat_natCast]; omega)
          have hb' := k1.2.2.2 d (by rw [← h3, Int.toNat_natCast]; omega)
          simp [ha, hb']
      · intro h
        have h8 : cnt vs = 0 := (cnt_zero h4.wds).2 fun d => by rw [h4.has, h.2.2.2 d]; simp
        omega
    rw [← h6]
    refine Ev.congr (f := fun k => (bitset_Count.f k (n : Int) vs).bind fun t109 => (some (t109 == 0))) (fun k => by rw [if_pos rfl]) (Ev.bind (f := fun _ t109 => some (t109 == 0)) (Count_eq h4.wds h5) (Ev.now _))
theorem two_xor_eq (a : Int) (la : List Int) (b : Int) (lb : List Int) (hwa : Wds la) (hwb : Wds lb) (hla : la.length ≤ 9223372036854775807) (hlb : lb.length ≤ 9223372036854775807) :
    ∃ r, TwoSays (fun x y => x != y) a la b lb r ∧ Ev (fun k => bitset_two_xor.f k a la b lb ()) r := by
  have ma := May_eq a la hwa hla
  have mb := May_eq b lb hwb hlb
  by_cases h : MayP a la ∧ MayP b lb
  · obtain ⟨h1, h2⟩ := h
    rw [may_true.2 h1] at ma
    rw [may_true.2 h2] at mb
    have e0 : ∀ k, bitset_two_xor.f k a la b lb () = bitset_two_xor.j0 k () false a la b lb := by
      intro k
      unfold bitset_two_xor.f
      rw [ma, Option.bind_some, if_pos rfl, mb, Option.bind_some]; rfl
    by_cases hab : a = b
    · subst hab
      have i1 := h1.is hwa
      have i2 := h2.is hwb
      obtain ⟨c, h3, h4⟩ := foldw_is bitly_xor i1 i2
      refine ⟨(a, c, 0), .inr ⟨h1, h2, .inr ⟨rfl, c, h4, rfl⟩⟩, Ev.congr e0 (Ev.step (f := fun _ => some (a, c, 0)) (fun k => ?_) (Ev.now _))⟩
      rw [bitset_two_xor.j0]
      rw [if_neg (by simp), if_pos rfl, own_eq h1 hwa, Option.bind_some]
      unfold bitset_fold_xor.f
      rw [folds, h3, Option.bind_some, folds]; rfl
    · refine ⟨(0, [], 60), .inr ⟨h1, h2, .inl ⟨hab, rfl⟩⟩, Ev.congr e0 (Ev.step (f := fun _ => some (0, [], 60)) (fun k => ?_) (Ev.now _))⟩
      rw [bitset_two_xor.j0]
      rw [if_neg (by simp), if_neg hab]
  · refine ⟨(0, [], 61), .inl ⟨h, rfl⟩, Ev.congr (f := fun k => bitset_two_xor.j0 k () true a la b lb) (fun k => ?_) (Ev.step (f := fun _ => some (0, [], 61)) (fun k => ?_) (Ev.now _))⟩
    · unfold bitset_two_xor.f
      rw [ma, Option.bind_some]
      by_cases h1 : MayP a la
      · rw [may_true.2 h1, if_pos rfl, mb, Option.bind_some, may_false.2 (fun h2 => h ⟨h1, h2⟩)]; rfl
      · rw [may_false.2 h1, if_neg (by simp)]
    · rw [bitset_two_xor.j0]
      rw [if_pos rfl]
theorem none_xor_eq (a : Int) (la : List Int) (b : Int) (lb : List Int) (hwa : Wds la) (hwb : Wds lb) (hla : la.length ≤ 9223372036854775807) (hlb : lb.length ≤ 9223372036854775807) :
    Ev (fun k => bitset_none_xor.f k a la b lb ()) (nonep (fun x y => x != y) a la b lb) := by
  obtain ⟨r, h1, h2⟩ := two_xor_eq a la b lb hwa hwb hla hlb
  have key : ∀ v, Ev (fun k => if r.2.2 = 0 then ((bitset_Count.f k r.1 r.2.1).bind fun t109 => (some (t109 == 0))) else (some false)) v → Ev (fun k => bitset_none_xor.f k a la b lb ()) v :=
    fun v hv => Ev.bind (f := fun k (bt103 : Int × List Int × Int) => (if bt103.2.2 = 0 then ((bitset_Count.f k bt103.1 bt103.2.1).bind fun t109 => (some (t109 == 0))) else (some false))) h2 hv
  apply key
  rcases h1 with ⟨h1, rfl⟩ | ⟨h1, k1, ⟨h3, rfl⟩ | ⟨h3, vs, h4, rfl⟩⟩
  · rw [← nonep_of (x := false) ⟨fun h => (by cases h), fun h => absurd ⟨h.1, h.2.1⟩ h1⟩]
    exact Ev.const fun k => by rw [if_neg (by decide)]
  · rw [← nonep_of (x := false) ⟨fun h => (by cases h), fun h => absurd h.2.2.1 h3⟩]
    exact Ev.const fun k => by rw [if_neg (by decide)]
  · obtain ⟨n, rfl⟩ := Int.eq_ofNat_of_zero_le h1.1
    rw [Int.toNat_natCast] at h4
    have h5 := h4.may (by have := h1.2.1; omega)
    have h6 : ((cnt vs : Int) == 0) = nonep (fun x y => x != y) (n : Int) la b lb := by
      refine nonep_of ?_
      have h7 : ∀ d, ((hb la d && hb lb d) = (hb la d && hb lb d)) := fun _ => rfl
      rw [beq_iff_eq]
      constructor
      · intro h
        refine ⟨h1, k1, h3, fun d => ?_⟩
        have h8 := (cnt_zero h4.wds).1 (by omega) d
        rw [h4.has] at h8
        by_cases hd : d < n
        · simpa [hd] using h8
        · have ha := h1.2.2.2 d (by rw [Int.toNat_natCast]; omega)
          have hb' := k1.2.2.2 d (by rw [← h3, Int.toNat_natCast]; omega)
          simp [ha, hb']
      · intro h
        have h8 : cnt vs = 0 := (cnt_zero h4.wds).2 fun d => by rw [h4.has, h.2.2.2 d]; simp
        omega
    rw [← h6]
    refine Ev.congr (f := fun k => (bitset_Count.f k (n : Int) vs).bind fun t109 => (some (t109 == 0))) (fun k => by rw [if_pos rfl]) (Ev.bind (f := fun _ t109 => some (t109 == 0)) (Count_eq h4.wds h5) (Ev.now _))
theorem Equal_eq (a : Int) (la : List Int) (b : Int) (lb : List Int) (hwa : Wds la) (hwb : Wds lb) (hla : la.length ≤ 9223372036854775807) (hlb : lb.length ≤ 9223372036854775807) : Ev (fun k => bitset_Equal.f k a la b lb) (nonep (fun x y => x != y) a la b lb) := by
  refine Ev.congr (fun k => ?_) (none_xor_eq a la b lb hwa hwb hla hlb)
  unfold bitset_Equal.f
  cases bitset_none_xor.f k a la b lb () <;> rfl
theorem Subset_eq (a : Int) (la : List Int) (b : Int) (lb : List Int) (hwa : Wds la) (hwb : Wds lb) (hla : la.length ≤ 9223372036854775807) (hlb : lb.length ≤ 9223372036854775807) : Ev (fun k => bitset_Subset.f k a la b lb) (nonep (fun x y => x && !y) a la b lb) := by
  refine Ev.congr (fun k => ?_) (none_andNot_eq a la b lb hwa hwb hla hlb)
  unfold bitset_Subset.f
  cases bitset_none_andNot.f k a la b lb () <;> rfl
theorem Disjoint_eq (a : Int) (la : List Int) (b : Int) (lb : List Int) (hwa : Wds la) (hwb : Wds lb) (hla : la.length ≤ 9223372036854775807) (hlb : lb.length ≤ 9223372036854775807) : Ev (fun k => bitset_Disjoint.f k a la b lb) (nonep (fun x y => x && y) a la b lb) := by
  refine Ev.congr (fun k => ?_) (none_and_eq a la b lb hwa hwb hla hlb)
  unfold bitset_Disjoint.f
  cases bitset_none_and.f k a la b lb () <;> rfl
theorem Minus_eq (a : Int) (la : List Int) (b : Int) (lb : List Int) (hwa : Wds la) (hwb : Wds lb) (hla : la.length ≤ 9223372036854775807) (hlb : lb.length ≤ 9223372036854775807) : ∃ r, TwoSays (fun x y => x && !y) a la b lb r ∧ Ev (fun k => bitset_Minus.f k a la b lb) r := by
  obtain ⟨r, h1, h2⟩ := two_andNot_eq a la b lb hwa hwb hla hlb
  refine ⟨r, h1, Ev.congr (fun k => ?_) h2⟩
  unfold bitset_Minus.f
  cases bitset_two_andNot.f k a la b lb () <;> rfl
theorem Differ_eq (a : Int) (la : List Int) (b : Int) (lb : List Int) (hwa : Wds la) (hwb : Wds lb) (hla : la.length ≤ 9223372036854775807) (hlb : lb.length ≤ 9223372036854775807) : ∃ r, TwoSays (fun x y => x != y) a la b lb r ∧ Ev (fun k => bitset_Differ.f k a la b lb) r := by
  obtain ⟨r, h1, h2⟩ := two_xor_eq a la b lb hwa hwb hla hlb
  refine ⟨r, h1, Ev.congr (fun k => ?_) h2⟩
  unfold bitset_Differ.f
  cases bitset_two_xor.f k a la b lb () <;> rfl
end Go.Proofs.Ytjmkhdhffmlhiaa.PAll
end
section
namespace Go.Proofs.Ytjmkhdhffmlhiaa.PAll
open Go.RowKit Go.Proofs.YtjmkhdhffmlhiaaW.PrintWords Go.Proofs.YtjmkhdhffmlhiaaW.PrintLast Go.Proofs.YtjmkhdhffmlhiaaW.PrintMore
attribute [local go_sem] max2_int min2_int max_two min_two max_three min_three max_four min_four w64_u8 w64_mod256   -- for this text's walks alone
set_option linter.unusedVariables false
set_option linter.unusedSimpArgs false
end Go.Proofs.Ytjmkhdhffmlhiaa.PAll
end
