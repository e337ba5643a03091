import Derived.Test.YtjmkhdhffmlhiaaDoorBzBitRound2
import Derived.Carry
import Derived.Test.YtjmkhdhffmlhiaaDoorBzBitRound3
section
namespace Go.Proofs.YtjmkhdhffmlhiaaDoor.PAll
open Go.RowKit Go.Proofs.YtjmkhdhffmlhiaaDoorW.PrintWords Go.Proofs.YtjmkhdhffmlhiaaDoorW.PrintLast Go.Proofs.YtjmkhdhffmlhiaaDoorW.PrintMore
attribute [local go_sem] max2_int min2_int max_two min_two max_three min_three max_four min_four w64_u8 w64_mod256   -- for this text's walks alone
set_option linter.unusedVariables false
set_option linter.unusedSimpArgs false
mutual
def bitset_digits.l0 : Nat → ByteArray → Int → Int → Int → Int → Bool → Option (Int × Int × Bool × Int × Bool)
  | 0, _, _, _, _, _, _ => none
  | k + 1, x0, x1, x8, x103000, x103001, x103002 => if x8 < (x0.size : Int) then (if 0 ≤ x8 then (if (bt x0 x8) ≥ 48 then (bitset_digits.j1 k x0 x1 x8 (decide ((bt x0 x8) ≤ 57)) x103000 x103001 x103002) else (bitset_digits.j1 k x0 x1 x8 false x103000 x103001 x103002)) else (none)) else (bitset_digits.j1 k x0 x1 x8 false x103000 x103001 x103002)
def bitset_digits.j1 : Nat → ByteArray → Int → Int → Bool → Int → Int → Bool → Option (Int × Int × Bool × Int × Bool)
  | 0, _, _, _, _, _, _, _ => none
  | k + 1, x0, x1, x8, x27, x103000, x103001, x103002 => if x27 = true then (if 0 ≤ x8 then (if x8 < (x0.size : Int) then (if (wrap64 (x8 + 1)) = (wrap64 (x1 + 1)) then (if 0 ≤ x1 then (if x1 < (x0.size : Int) then (if (bt x0 x1) = 48 then (some (mn (wrap64 ((wrap64 (x103000 * 10)) + (((bt x0 x8) - 48) % 256))) 1048576, x103001, x103002, wrap64 (x8 + 1), decide ((wrap64 (x8 + 1)) > x1))) else (bitset_digits.l0 k x0 x1 (wrap64 (x8 + 1)) (mn (wrap64 ((wrap64 (x103000 * 10)) + (((bt x0 x8) - 48) % 256))) 1048576) x103001 x103002)) else (none)) else (none)) else (bitset_digits.l0 k x0 x1 (wrap64 (x8 + 1)) (mn (wrap64 ((wrap64 (x103000 * 10)) + (((bt x0 x8) - 48) % 256))) 1048576) x103001 x103002)) else (none)) else (none)) else (some (x103000, x103001, x103002, x8, decide (x8 > x1)))
end
def bitset_digits.f (k : Nat) (a0 : ByteArray) (a1 : Int) : Option (Int × Int × Bool × Int × Bool) := bitset_digits.l0 k a0 a1 a1 0 a1 false
def bitset_digits.T4 : Bool × List (List Nat × List Nat) := (true, [([], []), ([0], [0]), ([1], [1]), ([], []), ([], []), ([3, 4], [3, 4]), ([5], [5]), ([6], [6]), ([2, 7], [2, 7]), ([8], [8]), ([0, 1, 2, 3, 4, 5, 6, 7, 8, 9], []), ([10, 9, 0, 1, 2, 3, 4, 5, 6, 7, 8, 9], [9, 10])])
def bitset_digits.B4 : List Nat := [0, 1, 3, 0, 0, 24, 56, 120, 255, 511, 1023, 2047]
theorem bitset_digits.tab4 : rtab .any (opsOf Tryd.f123 4) = bitset_digits.T4 := by kernel_rfl
theorem bitset_digits.bits4 : waitsOk bitset_digits.T4.2 bitset_digits.B4 = true := by kernel_rfl
set_option maxHeartbeats 8000000 in
set_option maxRecDepth 100000 in
theorem bitset_digits.calls (k : Nat) (a0 : ByteArray) (a1 : Int) (r1 : Int) (r2 : Int) (r3 : Bool) (r4 : Int) (r5 : Bool) (w : World) (h : bitset_digits.f k a0 a1 = some (r1, r2, r3, r4, r5)) :
    Calls Tryd.prog 123 #[.string a0, .int .i64 a1] w fun e w' => e = .returned (.tuple #[.agg #[.int .i64 r1, .int .i64 r2, .bool r3], .int .i64 r4, .bool r5]) ∧ Below w.heap.size w w' := by
  have hu127 := Tryd.underlying127
  have HB := Aside0.mk (Below.refl w.heap.size w)
  have H : (bitset_digits.l0 k a0 a1 a1 0 a1 false) = some (r1, r2, r3, r4, r5) := h
  clear h
  have H' := Aside0.mk H
  clear H
  go_enter Tryd.func123, Tryd.ntmps123
  go_wp2_with (first | ((with_reducible refine gate_dst (N := 4) rfl ?_); refine box_event ?hg (N := 4) ?hd (cs := #[.int .i64 0, .int .i64 0, .bool false]) (t := 127) ?hr ?_; (case hd => rfl); (case hg => rfl); (case hr => first | (go_simp; done) | (go_simp; rfl)); intro gb101 hg w3 hbox hb; have n0_ := Aside0.mk (below_step (by repeat (first | (with_reducible first | exact HB.out | apply below_alloc | apply pw_below_drewN | apply below_drew1) | exact HB.out)) hb); have n1_ := Aside0.mk (hbox); have n2_ := Aside0.mk ((by rw [hg]; exact (below_size (by repeat (first | (with_reducible first | exact HB.out | apply below_alloc | apply pw_below_drewN | apply below_drew1) | exact HB.out))) : w.heap.size ≤ gb101)); have n3_ := Aside0.mk ((by rw [hg]; exact (below_size (by repeat (first | (with_reducible first | exact HB.out | apply below_alloc | apply pw_below_drewN | apply below_drew1) | exact HB.out))) : w.heap.size ≤ gb101)); clear HB; have HB := n0_; have BK101 := n1_; have GW101 := n2_; have GE101 := n3_; clear n0_ n1_ n2_ n3_; clear hb hbox hg) | ((with_reducible refine gate_dst (N := 7) rfl ?_); refine box_event ?hg (N := 7) ?hd (cs := #[.int .i64 0, .int .i64 0, .bool false]) (t := 127) ?hr ?_; (case hd => rfl); (case hg => rfl); (case hr => first | (go_simp; done) | (go_simp; rfl)); intro gb102 hg w4 hbox hb; have n0_ := Aside0.mk (blk_below (g := gb101) (o := .cells #[.int .i64 0, .int .i64 0, .bool false] 127 (0, 0)) (by (with_reducible repeat (first | refine blk_drewN ?_ _ | refine blk_drew ?_ | refine blk_alloc ?_ _)); exact BK101.out) hb); have n1_ := Aside0.mk (below_step (by repeat (first | (with_reducible first | exact HB.out | apply below_alloc | apply pw_below_drewN | apply below_drew1 | refine below_set ?_ GE101.out) | exact HB.out)) hb); have n2_ := Aside0.mk (hbox); have n3_ := Aside0.mk ((by rw [hg]; exact (below_size (by repeat (first | (with_reducible first | exact HB.out | apply below_alloc | apply pw_below_drewN | apply below_drew1 | refine below_set ?_ GE101.out) | exact HB.out))) : w.heap.size ≤ gb102)); have n4_ := Aside0.mk ((by rw [hg]; exact (below_size (by repeat (first | (with_reducible first | exact HB.out | apply below_alloc | apply pw_below_drewN | apply below_drew1 | refine below_set ?_ GE101.out) | exact HB.out))) : w.heap.size ≤ gb102)); have n5_ := Aside0.mk ((by rw [hg]; exact Nat.ne_of_lt (blk_lt (g := gb101) (o := .cells #[.int .i64 0, .int .i64 0, .bool false] 127 (0, 0)) (by (with_reducible repeat (first | refine blk_drewN ?_ _ | refine blk_drew ?_ | refine blk_alloc ?_ _)); exact BK101.out)) : gb101 ≠ gb102)); have n6_ := Aside0.mk ((by rw [hg]; exact Nat.ne_of_gt (blk_lt (g := gb101) (o := .cells #[.int .i64 0, .int .i64 0, .bool false] 127 (0, 0)) (by (with_reducible repeat (first | refine blk_drewN ?_ _ | refine blk_drew ?_ | refine blk_alloc ?_ _)); exact BK101.out)) : gb102 ≠ gb101)); clear BK101; clear HB; have BK101 := n0_; have HB := n1_; have BK102 := n2_; have GW102 := n3_; have GE102 := n4_; have NB101_102 := n5_; have NB102_101 := n6_; clear n0_ n1_ n2_ n3_ n4_ n5_ n6_; clear hb hbox hg; have hnb5 := NB102_101.out; have hnc5 := NB101_102.out; have hcz6_0 : w4.cell? ⟨gb102, 0, none⟩ = some (.int .i64 0) := (blk_cell BK102.out 0).trans rfl; have hcz6_1 : w4.cell? ⟨gb102, 1, none⟩ = some (.int .i64 0) := (blk_cell BK102.out 1).trans rfl; have hcz6_2 : w4.cell? ⟨gb102, 2, none⟩ = some (.bool false) := (blk_cell BK102.out 2).trans rfl; have hfz6_0 := blk_frozen BK102.out 0; have hfz6_1 := blk_frozen BK102.out 1; have hfz6_2 := blk_frozen BK102.out 2))
  go_loopg [8] k (fun kq v8 w' => ∃ (x8_1 : Int) (x103000_1 : Int), v8 = .int .i64 x8_1 ∧ Aside0 (bitset_digits.l0 kq a0 a1 x8_1 x103000_1 a1 false = some (r1, r2, r3, r4, r5)) ∧ Aside0 (kq ≤ k) ∧ Aside0 (w'.heap[gb101]? = some (.cells #[.int .i64 0, .int .i64 0, .bool false] 127 (0, 0))) ∧ Aside0 (w'.heap[gb102]? = some (.cells #[.int .i64 x103000_1, .int .i64 a1, .bool false] 127 (0, 0))) ∧ Aside0 (Below w.heap.size w w'))
  case atStart => exact ⟨(a1), (0), (by first | rfl | (simp; done) | (simp [*]; done)), H', ⟨Nat.le_refl _⟩, ⟨by (with_reducible repeat (first | refine blk_drewN ?_ _ | refine blk_drew ?_ | refine blk_alloc ?_ _)); refine blk_far ?_ NB101_102.out _; (with_reducible repeat (first | refine blk_drewN ?_ _ | refine blk_drew ?_ | refine blk_alloc ?_ _)); refine blk_far ?_ NB101_102.out _; (with_reducible repeat (first | refine blk_drewN ?_ _ | refine blk_drew ?_ | refine blk_alloc ?_ _)); refine blk_far ?_ NB101_102.out _; (with_reducible repeat (first | refine blk_drewN ?_ _ | refine blk_drew ?_ | refine blk_alloc ?_ _)); exact BK101.out⟩, ⟨by (with_reducible repeat (first | refine blk_drewN ?_ _ | refine blk_drew ?_ | refine blk_alloc ?_ _)); refine blk_put (cs := #[.int .i64 0, .int .i64 a1, .bool false]) ?_ 2 _ rfl; (with_reducible repeat (first | refine blk_drewN ?_ _ | refine blk_drew ?_ | refine blk_alloc ?_ _)); refine blk_put (cs := #[.int .i64 0, .int .i64 0, .bool false]) ?_ 1 _ rfl; (with_reducible repeat (first | refine blk_drewN ?_ _ | refine blk_drew ?_ | refine blk_alloc ?_ _)); refine blk_put (cs := #[.int .i64 0, .int .i64 0, .bool false]) ?_ 0 _ rfl; (with_reducible repeat (first | refine blk_drewN ?_ _ | refine blk_drew ?_ | refine blk_alloc ?_ _)); exact BK102.out⟩, ⟨by repeat (first | (with_reducible first | exact HB.out | apply below_alloc | apply pw_below_drewN | apply below_drew1 | refine below_set ?_ GE101.out | refine below_set ?_ GE102.out) | exact HB.out)⟩⟩
  case round =>
    clear H'
    try clear c1
    try clear p2
    try clear c5
    try clear hcz6_0
    try clear hcz6_1
    try clear hcz6_2
    try clear hfz6_0
    try clear hfz6_1
    try clear hfz6_2
    obtain ⟨x8_1, x103000_1, rfl, HA, HK1, BK101, BK102, HB⟩ := hrel
    cases gk with
    | zero => exact absurd HA.out (by simp [bitset_digits.l0])
    | succ k1 =>
      have H := HA.out
      clear HA
      simp only [bitset_digits.l0] at H
      have HC7 := Aside0.mk H
      clear H
      go_upto_region 3 with (fail)
      go_cut [27] (fun v27 wc => ∃ (kq : Nat) (x27_6 : Bool), v27 = .bool x27_6 ∧ Aside0 (bitset_digits.j1 kq a0 a1 x8_1 x27_6 x103000_1 a1 false = some (r1, r2, r3, r4, r5)) ∧ Aside0 (kq ≤ k1) ∧ Aside0 (wc.heap[gb101]? = some (.cells #[.int .i64 0, .int .i64 0, .bool false] 127 (0, 0))) ∧ Aside0 (wc.heap[gb102]? = some (.cells #[.int .i64 x103000_1, .int .i64 a1, .bool false] 127 (0, 0))) ∧ Aside0 (Below w.heap.size w wc))
      case first =>
        have H := HC7.out
        clear HC7
        by_cases c8 : x8_1 < (a0.size : Int)
        · rw [if_pos c8] at H
          have c8b0 : decide (x8_1 < (a0.size : Int)) = true := decide_eq_true c8
          clear c8
          (first | rw [c8b0] | (simp only [i64_w, i32_w]; rw [c8b0]) | skip)
          by_cases c9 : 0 ≤ x8_1
          · rw [if_pos c9] at H
            have c9b0 : decide (0 ≤ x8_1) = true := decide_eq_true c9
            clear c9
            by_cases c11 : (bt a0 x8_1) ≥ 48
            · rw [if_pos c11] at H
              have c11b0 : decide (48 ≤ (bt a0 x8_1)) = true := decide_eq_true c11
              clear c11
              have H' := Aside0.mk H
              clear H
              have p10 : 0 ≤ (x8_1 : Int) := of_decide_eq_true (by first | (with_reducible assumption) | assumption)
              have q10 : x8_1 < (a0.size : Int) := of_decide_eq_true (by first | (with_reducible assumption) | assumption)
              have hx10 := bt_at a0 x8_1
              replace p10 := eq_true p10
              replace q10 := eq_true q10
              have p12 : 0 ≤ (x8_1 : Int) := of_decide_eq_true (by first | (with_reducible assumption) | assumption)
              have q12 : x8_1 < (a0.size : Int) := of_decide_eq_true (by first | (with_reducible assumption) | assumption)
              have hx12 := bt_at a0 x8_1
              replace p12 := eq_true p12
              replace q12 := eq_true q12
              go_wp2
              go_meet
              case rel => exact ⟨_, (decide ((bt a0 x8_1) ≤ 57)), (by first | rfl | (simp; done) | (simp [*]; done)), H', ⟨by have := HK1.out; first | omega | exact Nat.le_refl _⟩, ⟨by (with_reducible repeat (first | refine blk_drewN ?_ _ | refine blk_drew ?_ | refine blk_alloc ?_ _)); exact BK101.out⟩, ⟨by (with_reducible repeat (first | refine blk_drewN ?_ _ | refine blk_drew ?_ | refine blk_alloc ?_ _)); exact BK102.out⟩, ⟨by repeat (first | (with_reducible first | exact HB.out | apply below_alloc | apply pw_below_drewN | apply below_drew1 | refine below_set ?_ GE101.out | refine below_set ?_ GE102.out) | exact HB.out)⟩⟩
            · rw [if_neg c11] at H
              have c11b0 : decide (48 ≤ (bt a0 x8_1)) = false := decide_eq_false c11
              clear c11
              have H' := Aside0.mk H
              clear H
              have p10 : 0 ≤ (x8_1 : Int) := of_decide_eq_true (by first | (with_reducible assumption) | assumption)
              have q10 : x8_1 < (a0.size : Int) := of_decide_eq_true (by first | (with_reducible assumption) | assumption)
              have hx10 := bt_at a0 x8_1
              replace p10 := eq_true p10
              replace q10 := eq_true q10
              go_wp2
              go_meet
              case rel => exact ⟨_, (false), (by first | rfl | (simp; done) | (simp [*]; done)), H', ⟨by have := HK1.out; first | omega | exact Nat.le_refl _⟩, ⟨by (with_reducible repeat (first | refine blk_drewN ?_ _ | refine blk_drew ?_ | refine blk_alloc ?_ _)); exact BK101.out⟩, ⟨by (with_reducible repeat (first | refine blk_drewN ?_ _ | refine blk_drew ?_ | refine blk_alloc ?_ _)); exact BK102.out⟩, ⟨by repeat (first | (with_reducible first | exact HB.out | apply below_alloc | apply pw_below_drewN | apply below_drew1 | refine below_set ?_ GE101.out | refine below_set ?_ GE102.out) | exact HB.out)⟩⟩
          · rw [if_neg c9] at H
            exact absurd H (by simp)
        · rw [if_neg c8] at H
          have c8b0 : decide (x8_1 < (a0.size : Int)) = false := decide_eq_false c8
          clear c8
          (first | rw [c8b0] | (simp only [i64_w, i32_w]; rw [c8b0]) | skip)
          have H' := Aside0.mk H
          clear H
          go_wp2
          go_meet
          case rel => exact ⟨_, (false), (by first | rfl | (simp; done) | (simp [*]; done)), H', ⟨by have := HK1.out; first | omega | exact Nat.le_refl _⟩, ⟨by (with_reducible repeat (first | refine blk_drewN ?_ _ | refine blk_drew ?_ | refine blk_alloc ?_ _)); exact BK101.out⟩, ⟨by (with_reducible repeat (first | refine blk_drewN ?_ _ | refine blk_drew ?_ | refine blk_alloc ?_ _)); exact BK102.out⟩, ⟨by repeat (first | (with_reducible first | exact HB.out | apply below_alloc | apply pw_below_drewN | apply below_drew1 | refine below_set ?_ GE101.out | refine below_set ?_ GE102.out) | exact HB.out)⟩⟩
      case rest =>
        clear HC7
        try clear c1
        try clear p1
        try clear q1
        try clear hx1
        try clear p2
        try clear c5
        try clear c8
        try clear c8b0
        try clear c9
        try clear c9b0
        try clear p10
        try clear q10
        try clear hx10
        try clear c11
        try clear c11b0
        try clear c12
        try clear p12
        try clear q12
        try clear hx12
        try clear hcz6_0
        try clear hcz6_1
        try clear hcz6_2
        try clear hfz6_0
        try clear hfz6_1
        try clear hfz6_2
        try clear p10
        try clear p12
        try clear p2
        try clear q10
        try clear q12
        obtain ⟨kq, x27_6, rfl, HA, HJ6, BK101, BK102, HB⟩ := hcut
        cases kq with
        | zero => exact absurd HA.out (by simp [bitset_digits.j1])
        | succ kj6 =>
          have H := HA.out
          clear HA
          simp only [bitset_digits.j1] at H
          by_cases c13 : x27_6 = true
          · subst c13
            have H1 : (if 0 ≤ x8_1 then (if x8_1 < (a0.size : Int) then (if (wrap64 (x8_1 + 1)) = (wrap64 (a1 + 1)) then (if 0 ≤ a1 then (if a1 < (a0.size : Int) then (if (bt a0 a1) = 48 then (some (mn (wrap64 ((wrap64 (x103000_1 * 10)) + (((bt a0 x8_1) - 48) % 256))) 1048576, a1, false, wrap64 (x8_1 + 1), decide ((wrap64 (x8_1 + 1)) > a1))) else (bitset_digits.l0 kj6 a0 a1 (wrap64 (x8_1 + 1)) (mn (wrap64 ((wrap64 (x103000_1 * 10)) + (((bt a0 x8_1) - 48) % 256))) 1048576) a1 false)) else (none)) else (none)) else (bitset_digits.l0 kj6 a0 a1 (wrap64 (x8_1 + 1)) (mn (wrap64 ((wrap64 (x103000_1 * 10)) + (((bt a0 x8_1) - 48) % 256))) 1048576) a1 false)) else (none)) else (none)) = some (r1, r2, r3, r4, r5) := by rw [if_pos rfl] at H; exact H
            clear H
            have H := H1
            clear H1
            by_cases c14 : 0 ≤ x8_1
            · rw [if_pos c14] at H
              have c14b0 : decide (0 ≤ x8_1) = true := decide_eq_true c14
              clear c14
              by_cases c15 : x8_1 < (a0.size : Int)
              · rw [if_pos c15] at H
                have c15b0 : decide (x8_1 < (a0.size : Int)) = true := decide_eq_true c15
                clear c15
                obtain ⟨ji17, hji17⟩ : ∃ j_ : Int, (mn (wrap64 ((wrap64 (x103000_1 * 10)) + (((bt a0 x8_1) - 48) % 256))) 1048576) = j_ := ⟨_, rfl⟩
                replace H : (if (wrap64 (x8_1 + 1)) = (wrap64 (a1 + 1)) then (if 0 ≤ a1 then (if a1 < (a0.size : Int) then (if (bt a0 a1) = 48 then (some (ji17, a1, false, wrap64 (x8_1 + 1), decide ((wrap64 (x8_1 + 1)) > a1))) else (bitset_digits.l0 kj6 a0 a1 (wrap64 (x8_1 + 1)) ji17 a1 false)) else (none)) else (none)) else (bitset_digits.l0 kj6 a0 a1 (wrap64 (x8_1 + 1)) ji17 a1 false)) = some (r1, r2, r3, r4, r5) := by first | (rw [hji17] at H; exact H) | (simp only [hji17] at H ⊢; exact H)
                (try (have hji17h : ji17 ≤ 1048576 := by (rw [← hji17]; unfold mn; (repeat' split) <;> omega)))
                (try (have hji17g : ji17 ≤ 64 := by omega))
                have hji17_ : (if 1048576 < (wrap64 ((wrap64 (x103000_1 * 10)) + (((bt a0 x8_1) - 48) % 256))) then 1048576 else (wrap64 ((wrap64 (x103000_1 * 10)) + (((bt a0 x8_1) - 48) % 256)))) = ji17 := hji17
                by_cases c18 : (wrap64 (x8_1 + 1)) = (wrap64 (a1 + 1))
                · rw [if_pos c18] at H
                  have c18b0 : ((wrap64 (x8_1 + 1)) == (wrap64 (a1 + 1))) = true := beq_iff_eq.mpr c18
                  have c18b1 : ((wrap64 (x8_1 + 1)) != (wrap64 (a1 + 1))) = false := bne_eq_false_iff_eq.mpr c18
                  clear c18
                  by_cases c19 : 0 ≤ a1
                  · rw [if_pos c19] at H
                    have c19b0 : decide (0 ≤ a1) = true := decide_eq_true c19
                    clear c19
                    by_cases c20 : a1 < (a0.size : Int)
                    · rw [if_pos c20] at H
                      have c20b0 : decide (a1 < (a0.size : Int)) = true := decide_eq_true c20
                      clear c20
                      by_cases c22 : (bt a0 a1) = 48
                      · rw [if_pos c22] at H
                        have c22b0 : ((bt a0 a1) == 48) = true := beq_iff_eq.mpr c22
                        have c22b1 : ((bt a0 a1) != 48) = false := bne_eq_false_iff_eq.mpr c22
                        clear c22
                        simp only [Option.some.injEq, Prod.mk.injEq] at H
                        obtain ⟨rfl, rfl, rfl, rfl, rfl⟩ := H
                        try go_wp2
                        have n0_ := Aside0.mk (blk_drew BK101.out)
                        have n1_ := Aside0.mk (blk_drew BK102.out)
                        have n2_ := Aside0.mk (below_drew1 HB.out)
                        clear BK101
                        clear BK102
                        clear HB
                        have BK101 := n0_
                        have BK102 := n1_
                        have HB := n2_
                        clear n0_ n1_ n2_
                        have p16 : 0 ≤ (x8_1 : Int) := of_decide_eq_true (by first | (with_reducible assumption) | assumption)
                        have q16 : x8_1 < (a0.size : Int) := of_decide_eq_true (by first | (with_reducible assumption) | assumption)
                        have hx16 := bt_at a0 x8_1
                        replace p16 := eq_true p16
                        replace q16 := eq_true q16
                        refine start_ (n := 12) (S := fun w' => w'.cell? ⟨gb102, 0, none⟩ = some (.int .i64 x103000_1) ∧ w'.cell? ⟨gb102, 1, none⟩ = some (.int .i64 a1) ∧ w'.cell? ⟨gb102, 2, none⟩ = some (.bool false)) (ds := [11]) #[false, false, false, false, false, false, false, false, false, false, false, false] (by kernel_rfl) rfl rfl ⟨(blk_cell BK102.out 0).trans rfl, (blk_cell BK102.out 1).trans rfl, (blk_cell BK102.out 2).trans rfl⟩ (fun hHeld => ?_); refine with_tabW bitset_digits.tab4 bitset_digits.bits4 (fun HT_ HW_ => ?_)
                        generalize wc.drew = w23 at BK101 BK102 HB hHeld ⊢
                        refine pure_ (i := 0) (N := some 28) (v := ?_) (a' := ?_) #[true, false, false, false, false, false, false, false, false, false, false, false] rfl rfl (any_of HT_.out (by kernel_rfl)) (fun _ _ _ h => h) (Or.inl ⟨by rfl, ?_⟩) ?_ ?_
                        rotate_left
                        · intro w'
                          go_simp
                          with_reducible rfl
                        rotate_left
                        · simp only [Act.put, List.setIfInBounds_toArray, List.set_cons_zero, List.set_cons_succ, i64_w, i32_w]
                          rfl
                        refine pure_ (i := 3) (N := some 31) (v := ?_) (a' := ?_) #[true, false, false, true, false, false, false, false, false, false, false, false] rfl rfl (any_of HT_.out (by kernel_rfl)) (fun _ _ _ h => h) (Or.inl ⟨by rfl, ?_⟩) ?_ ?_
                        rotate_left
                        · intro w'
                          go_simp
                          with_reducible rfl
                        rotate_left
                        · simp only [Act.put, List.setIfInBounds_toArray, List.set_cons_zero, List.set_cons_succ, i64_w, i32_w]
                          rfl
                        refine pure_ (i := 4) (N := some 32) (v := ?_) (a' := ?_) #[true, false, false, true, true, false, false, false, false, false, false, false] rfl rfl (any_of HT_.out (by kernel_rfl)) (fun _ _ _ h => h) (Or.inl ⟨by rfl, ?_⟩) ?_ ?_
                        rotate_left
                        · intro w'
                          go_simp
                          with_reducible rfl
                        rotate_left
                        · simp only [Act.put, List.setIfInBounds_toArray, List.set_cons_zero, List.set_cons_succ, i64_w, i32_w]
                          rfl
                        refine take_ (i := 1) (N := some 29) (v := ?_) (a' := ?_) #[true, true, false, true, true, false, false, false, false, false, false, false] rfl rfl (take_ofW HT_.out HW_.out (by kernel_rfl)) (fun _ _ _ h => h) (Or.inl ⟨by rfl, ?_⟩) hHeld ?_ ?_
                        rotate_left
                        · rintro w' ⟨s0, s1, s2⟩
                          go_simp
                          with_reducible rfl
                        rotate_left
                        · simp only [Act.put, List.setIfInBounds_toArray, List.set_cons_zero, List.set_cons_succ, i64_w, i32_w]
                          rfl
                        refine pure_ (i := 2) (N := some 30) (v := ?_) (a' := ?_) #[true, true, true, true, true, false, false, false, false, false, false, false] rfl rfl (any_of HT_.out (by kernel_rfl)) (fun _ _ _ h => h) (Or.inl ⟨by rfl, ?_⟩) ?_ ?_
                        rotate_left
                        · intro w'
                          go_simp
                          with_reducible rfl
                        rotate_left
                        · simp only [Act.put, List.setIfInBounds_toArray, List.set_cons_zero, List.set_cons_succ, i64_w, i32_w]
                          rfl
                        refine take_ (i := 5) (N := some 33) (v := ?_) (a' := ?_) #[true, true, true, true, true, true, false, false, false, false, false, false] rfl rfl (take_ofW HT_.out HW_.out (by kernel_rfl)) (fun _ _ _ h => h) (Or.inl ⟨by rfl, ?_⟩) hHeld ?_ ?_
                        rotate_left
                        · rintro w' ⟨s0, s1, s2⟩
                          go_simp
                          with_reducible rfl
                        rotate_left
                        · simp only [Act.put, List.setIfInBounds_toArray, List.set_cons_zero, List.set_cons_succ, i64_w, i32_w]
                          rfl
                        refine pure_ (i := 6) (N := some 34) (v := ?_) (a' := ?_) #[true, true, true, true, true, true, true, false, false, false, false, false] rfl rfl (any_of HT_.out (by kernel_rfl)) (fun _ _ _ h => h) (Or.inl ⟨by rfl, ?_⟩) ?_ ?_
                        rotate_left
                        · intro w'
                          go_simp
                          with_reducible rfl
                        rotate_left
                        · simp only [Act.put, List.setIfInBounds_toArray, List.set_cons_zero, List.set_cons_succ, i64_w, i32_w]
                          rfl
                        refine pure_ (i := 7) (N := some 35) (v := ?_) (a' := ?_) #[true, true, true, true, true, true, true, true, false, false, false, false] rfl rfl (any_of HT_.out (by kernel_rfl)) (fun _ _ _ h => h) (Or.inl ⟨by rfl, ?_⟩) ?_ ?_
                        rotate_left
                        · intro w'
                          go_simp
                          with_reducible rfl
                        rotate_left
                        · simp only [Act.put, List.setIfInBounds_toArray, List.set_cons_zero, List.set_cons_succ, i64_w, i32_w]
                          rfl
                        refine pure_ (i := 8) (N := some 36) (v := ?_) (a' := ?_) #[true, true, true, true, true, true, true, true, true, false, false, false] rfl rfl (any_of HT_.out (by kernel_rfl)) (fun _ _ _ h => h) (Or.inl ⟨by rfl, ?_⟩) ?_ ?_
                        rotate_left
                        · intro w'
                          go_simp
                          with_reducible rfl
                        rotate_left
                        · simp only [Act.put, List.setIfInBounds_toArray, List.set_cons_zero, List.set_cons_succ, i64_w, i32_w]
                          rfl
                        refine pure_ (i := 9) (N := some 37) (v := ?_) (a' := ?_) #[true, true, true, true, true, true, true, true, true, true, false, false] rfl rfl (any_of HT_.out (by kernel_rfl)) (fun _ _ _ h => h) (Or.inl ⟨by rfl, ?_⟩) ?_ ?_
                        rotate_left
                        · intro w'
                          go_simp
                          with_reducible rfl
                        rotate_left
                        · simp only [Act.put, List.setIfInBounds_toArray, List.set_cons_zero, List.set_cons_succ, i64_w, i32_w]
                          rfl
                        refine pure_ (i := 10) (N := some 38) (v := ?_) (a' := ?_) #[true, true, true, true, true, true, true, true, true, true, true, false] rfl rfl (any_of HT_.out (by kernel_rfl)) (fun _ _ _ h => h) (Or.inl ⟨by rfl, ?_⟩) ?_ ?_
                        rotate_left
                        · intro w'
                          go_simp
                          with_reducible rfl
                        rotate_left
                        · simp only [Act.put, List.setIfInBounds_toArray, List.set_cons_zero, List.set_cons_succ, i64_w, i32_w]
                          rfl
                        refine last_ (i := 11) (N := none) #[true, true, true, true, true, true, true, true, true, true, true, true] rfl rfl (one_of HT_.out (by kernel_rfl)) (by decide) (fun K hK => ?_)
                        have hs24 : w23.cell? ⟨gb102, 0, none⟩ = some (.int .i64 x103000_1) := (blk_cell BK102.out 0).trans rfl
                        have hfs24 := blk_frozen BK102.out 0
                        have hns24_0 := NB101_102.out
                        have hms24_0 := NB102_101.out
                        refine skip_ (w1 := ?_) (by rfl) rfl ?_ ?_
                        rotate_left
                        · go_simp
                          rfl
                        refine hK.out _ _ ?_
                        clear hK K
                        refine done_ (done_of HT_.out (by kernel_rfl)) ?_
                        have p21 : 0 ≤ (a1 : Int) := of_decide_eq_true (by first | (with_reducible assumption) | assumption)
                        have q21 : a1 < (a0.size : Int) := of_decide_eq_true (by first | (with_reducible assumption) | assumption)
                        have hx21 := bt_at a0 a1
                        replace p21 := eq_true p21
                        replace q21 := eq_true q21
                        have hnb25 := NB102_101.out
                        have hnc25 := NB101_102.out
                        have hcz26_0 : w23.cell? ⟨gb102, 0, none⟩ = some (.int .i64 x103000_1) := (blk_cell BK102.out 0).trans rfl
                        have hcz26_1 : w23.cell? ⟨gb102, 1, none⟩ = some (.int .i64 a1) := (blk_cell BK102.out 1).trans rfl
                        have hcz26_2 : w23.cell? ⟨gb102, 2, none⟩ = some (.bool false) := (blk_cell BK102.out 2).trans rfl
                        have hfz26_0 := blk_frozen BK102.out 0
                        have hfz26_1 := blk_frozen BK102.out 1
                        have hfz26_2 := blk_frozen BK102.out 2
                        have hcz27_0 : w23.cell? ⟨gb101, 0, none⟩ = some (.int .i64 0) := (blk_cell BK101.out 0).trans rfl
                        have hcz27_1 : w23.cell? ⟨gb101, 1, none⟩ = some (.int .i64 0) := (blk_cell BK101.out 1).trans rfl
                        have hcz27_2 : w23.cell? ⟨gb101, 2, none⟩ = some (.bool false) := (blk_cell BK101.out 2).trans rfl
                        have hfz27_0 := blk_frozen BK101.out 0
                        have hfz27_1 := blk_frozen BK101.out 1
                        have hfz27_2 := blk_frozen BK101.out 2
                        try go_wp2
                        refine bodyPost_ret (results_ctt rfl _ _ gb101 127 #[.int .i64 ji17, .int .i64 a1, .bool false] (0, 0) _ rfl (by (with_reducible repeat (first | refine blk_drewN ?_ _ | refine blk_drew ?_ | refine blk_alloc ?_ _)); refine blk_put (cs := #[.int .i64 ji17, .int .i64 a1, .bool false]) ?_ 2 _ rfl; (with_reducible repeat (first | refine blk_drewN ?_ _ | refine blk_drew ?_ | refine blk_alloc ?_ _)); refine blk_put (cs := #[.int .i64 ji17, .int .i64 0, .bool false]) ?_ 1 _ rfl; (with_reducible repeat (first | refine blk_drewN ?_ _ | refine blk_drew ?_ | refine blk_alloc ?_ _)); refine blk_put (cs := #[.int .i64 0, .int .i64 0, .bool false]) ?_ 0 _ rfl; (with_reducible repeat (first | refine blk_drewN ?_ _ | refine blk_drew ?_ | refine blk_alloc ?_ _)); refine blk_far ?_ NB101_102.out _; (with_reducible repeat (first | refine blk_drewN ?_ _ | refine blk_drew ?_ | refine blk_alloc ?_ _)); exact BK101.out) Tryd.underlying127 rfl (by kernel_rfl)) rfl ?_
                        exact ⟨by first | rfl | (simp [errW_none, errW_some] <;> rfl) | (simp only [← hji17]; first | rfl | (simp [errW_none, errW_some] <;> rfl)) | (simp [*, errW_none, errW_some] <;> rfl), by repeat (first | (with_reducible first | exact HB.out | apply below_alloc | apply pw_below_drewN | apply below_drew1 | refine below_set ?_ GE101.out | refine below_set ?_ GE102.out) | exact HB.out)⟩
                      · rw [if_neg c22] at H
                        have c22b0 : ((bt a0 a1) == 48) = false := beq_eq_false_iff_ne.mpr c22
                        have c22b1 : ((bt a0 a1) != 48) = true := bne_iff_ne.mpr c22
                        have H' := Aside0.mk H
                        clear H
                        try go_wp2
                        have n0_ := Aside0.mk (blk_drew BK101.out)
                        have n1_ := Aside0.mk (blk_drew BK102.out)
                        have n2_ := Aside0.mk (below_drew1 HB.out)
                        clear BK101
                        clear BK102
                        clear HB
                        have BK101 := n0_
                        have BK102 := n1_
                        have HB := n2_
                        clear n0_ n1_ n2_
                        have p16 : 0 ≤ (x8_1 : Int) := of_decide_eq_true (by first | (with_reducible assumption) | assumption)
                        have q16 : x8_1 < (a0.size : Int) := of_decide_eq_true (by first | (with_reducible assumption) | assumption)
                        have hx16 := bt_at a0 x8_1
                        replace p16 := eq_true p16
                        replace q16 := eq_true q16
                        refine start_ (n := 12) (S := fun w' => w'.cell? ⟨gb102, 0, none⟩ = some (.int .i64 x103000_1) ∧ w'.cell? ⟨gb102, 1, none⟩ = some (.int .i64 a1) ∧ w'.cell? ⟨gb102, 2, none⟩ = some (.bool false)) (ds := [11]) #[false, false, false, false, false, false, false, false, false, false, false, false] (by kernel_rfl) rfl rfl ⟨(blk_cell BK102.out 0).trans rfl, (blk_cell BK102.out 1).trans rfl, (blk_cell BK102.out 2).trans rfl⟩ (fun hHeld => ?_); refine with_tabW bitset_digits.tab4 bitset_digits.bits4 (fun HT_ HW_ => ?_)
                        generalize wc.drew = w28 at BK101 BK102 HB hHeld ⊢
                        refine pure_ (i := 0) (N := some 28) (v := ?_) (a' := ?_) #[true, false, false, false, false, false, false, false, false, false, false, false] rfl rfl (any_of HT_.out (by kernel_rfl)) (fun _ _ _ h => h) (Or.inl ⟨by rfl, ?_⟩) ?_ ?_
                        rotate_left
                        · intro w'
                          go_simp
                          with_reducible rfl
                        rotate_left
                        · simp only [Act.put, List.setIfInBounds_toArray, List.set_cons_zero, List.set_cons_succ, i64_w, i32_w]
                          rfl
                        refine pure_ (i := 3) (N := some 31) (v := ?_) (a' := ?_) #[true, false, false, true, false, false, false, false, false, false, false, false] rfl rfl (any_of HT_.out (by kernel_rfl)) (fun _ _ _ h => h) (Or.inl ⟨by rfl, ?_⟩) ?_ ?_
                        rotate_left
                        · intro w'
                          go_simp
                          with_reducible rfl
                        rotate_left
                        · simp only [Act.put, List.setIfInBounds_toArray, List.set_cons_zero, List.set_cons_succ, i64_w, i32_w]
                          rfl
                        refine pure_ (i := 4) (N := some 32) (v := ?_) (a' := ?_) #[true, false, false, true, true, false, false, false, false, false, false, false] rfl rfl (any_of HT_.out (by kernel_rfl)) (fun _ _ _ h => h) (Or.inl ⟨by rfl, ?_⟩) ?_ ?_
                        rotate_left
                        · intro w'
                          go_simp
                          with_reducible rfl
                        rotate_left
                        · simp only [Act.put, List.setIfInBounds_toArray, List.set_cons_zero, List.set_cons_succ, i64_w, i32_w]
                          rfl
                        refine take_ (i := 1) (N := some 29) (v := ?_) (a' := ?_) #[true, true, false, true, true, false, false, false, false, false, false, false] rfl rfl (take_ofW HT_.out HW_.out (by kernel_rfl)) (fun _ _ _ h => h) (Or.inl ⟨by rfl, ?_⟩) hHeld ?_ ?_
                        rotate_left
                        · rintro w' ⟨s0, s1, s2⟩
                          go_simp
                          with_reducible rfl
                        rotate_left
                        · simp only [Act.put, List.setIfInBounds_toArray, List.set_cons_zero, List.set_cons_succ, i64_w, i32_w]
                          rfl
                        refine pure_ (i := 2) (N := some 30) (v := ?_) (a' := ?_) #[true, true, true, true, true, false, false, false, false, false, false, false] rfl rfl (any_of HT_.out (by kernel_rfl)) (fun _ _ _ h => h) (Or.inl ⟨by rfl, ?_⟩) ?_ ?_
                        rotate_left
                        · intro w'
                          go_simp
                          with_reducible rfl
                        rotate_left
                        · simp only [Act.put, List.setIfInBounds_toArray, List.set_cons_zero, List.set_cons_succ, i64_w, i32_w]
                          rfl
                        refine take_ (i := 5) (N := some 33) (v := ?_) (a' := ?_) #[true, true, true, true, true, true, false, false, false, false, false, false] rfl rfl (take_ofW HT_.out HW_.out (by kernel_rfl)) (fun _ _ _ h => h) (Or.inl ⟨by rfl, ?_⟩) hHeld ?_ ?_
                        rotate_left
                        · rintro w' ⟨s0, s1, s2⟩
                          go_simp
                          with_reducible rfl
                        rotate_left
                        · simp only [Act.put, List.setIfInBounds_toArray, List.set_cons_zero, List.set_cons_succ, i64_w, i32_w]
                          rfl
                        refine pure_ (i := 6) (N := some 34) (v := ?_) (a' := ?_) #[true, true, true, true, true, true, true, false, false, false, false, false] rfl rfl (any_of HT_.out (by kernel_rfl)) (fun _ _ _ h => h) (Or.inl ⟨by rfl, ?_⟩) ?_ ?_
                        rotate_left
                        · intro w'
                          go_simp
                          with_reducible rfl
                        rotate_left
                        · simp only [Act.put, List.setIfInBounds_toArray, List.set_cons_zero, List.set_cons_succ, i64_w, i32_w]
                          rfl
                        refine pure_ (i := 7) (N := some 35) (v := ?_) (a' := ?_) #[true, true, true, true, true, true, true, true, false, false, false, false] rfl rfl (any_of HT_.out (by kernel_rfl)) (fun _ _ _ h => h) (Or.inl ⟨by rfl, ?_⟩) ?_ ?_
                        rotate_left
                        · intro w'
                          go_simp
                          with_reducible rfl
                        rotate_left
                        · simp only [Act.put, List.setIfInBounds_toArray, List.set_cons_zero, List.set_cons_succ, i64_w, i32_w]
                          rfl
                        refine pure_ (i := 8) (N := some 36) (v := ?_) (a' := ?_) #[true, true, true, true, true, true, true, true, true, false, false, false] rfl rfl (any_of HT_.out (by kernel_rfl)) (fun _ _ _ h => h) (Or.inl ⟨by rfl, ?_⟩) ?_ ?_
                        rotate_left
                        · intro w'
                          go_simp
                          with_reducible rfl
                        rotate_left
                        · simp only [Act.put, List.setIfInBounds_toArray, List.set_cons_zero, List.set_cons_succ, i64_w, i32_w]
                          rfl
                        refine pure_ (i := 9) (N := some 37) (v := ?_) (a' := ?_) #[true, true, true, true, true, true, true, true, true, true, false, false] rfl rfl (any_of HT_.out (by kernel_rfl)) (fun _ _ _ h => h) (Or.inl ⟨by rfl, ?_⟩) ?_ ?_
                        rotate_left
                        · intro w'
                          go_simp
                          with_reducible rfl
                        rotate_left
                        · simp only [Act.put, List.setIfInBounds_toArray, List.set_cons_zero, List.set_cons_succ, i64_w, i32_w]
                          rfl
                        refine pure_ (i := 10) (N := some 38) (v := ?_) (a' := ?_) #[true, true, true, true, true, true, true, true, true, true, true, false] rfl rfl (any_of HT_.out (by kernel_rfl)) (fun _ _ _ h => h) (Or.inl ⟨by rfl, ?_⟩) ?_ ?_
                        rotate_left
                        · intro w'
                          go_simp
                          with_reducible rfl
                        rotate_left
                        · simp only [Act.put, List.setIfInBounds_toArray, List.set_cons_zero, List.set_cons_succ, i64_w, i32_w]
                          rfl
                        refine last_ (i := 11) (N := none) #[true, true, true, true, true, true, true, true, true, true, true, true] rfl rfl (one_of HT_.out (by kernel_rfl)) (by decide) (fun K hK => ?_)
                        have hs29 : w28.cell? ⟨gb102, 0, none⟩ = some (.int .i64 x103000_1) := (blk_cell BK102.out 0).trans rfl
                        have hfs29 := blk_frozen BK102.out 0
                        have hns29_0 := NB101_102.out
                        have hms29_0 := NB102_101.out
                        refine skip_ (w1 := ?_) (by rfl) rfl ?_ ?_
                        rotate_left
                        · go_simp
                          rfl
                        refine hK.out _ _ ?_
                        clear hK K
                        refine done_ (done_of HT_.out (by kernel_rfl)) ?_
                        have p21 : 0 ≤ (a1 : Int) := of_decide_eq_true (by first | (with_reducible assumption) | assumption)
                        have q21 : a1 < (a0.size : Int) := of_decide_eq_true (by first | (with_reducible assumption) | assumption)
                        have hx21 := bt_at a0 a1
                        replace p21 := eq_true p21
                        replace q21 := eq_true q21
                        try go_wp2
                        go_roundg kj6
                        case measure => have := HK1.out; have := HJ6.out; omega
                        case rel => exact ⟨(wrap64 (x8_1 + 1)), (ji17), (by first | rfl | (simp; done) | (simp [*]; done)), H', ⟨by have := HK1.out; have := HJ6.out; omega⟩, ⟨by (with_reducible repeat (first | refine blk_drewN ?_ _ | refine blk_drew ?_ | refine blk_alloc ?_ _)); refine blk_far ?_ NB101_102.out _; (with_reducible repeat (first | refine blk_drewN ?_ _ | refine blk_drew ?_ | refine blk_alloc ?_ _)); exact BK101.out⟩, ⟨by (with_reducible repeat (first | refine blk_drewN ?_ _ | refine blk_drew ?_ | refine blk_alloc ?_ _)); refine blk_put (cs := #[.int .i64 x103000_1, .int .i64 a1, .bool false]) ?_ 0 _ rfl; (with_reducible repeat (first | refine blk_drewN ?_ _ | refine blk_drew ?_ | refine blk_alloc ?_ _)); exact BK102.out⟩, ⟨by repeat (first | (with_reducible first | exact HB.out | apply below_alloc | apply pw_below_drewN | apply below_drew1 | refine below_set ?_ GE101.out | refine below_set ?_ GE102.out) | exact HB.out)⟩⟩
                    · rw [if_neg c20] at H
                      exact absurd H (by simp)
                  · rw [if_neg c19] at H
                    exact absurd H (by simp)
                · rw [if_neg c18] at H
                  have c18b0 : ((wrap64 (x8_1 + 1)) == (wrap64 (a1 + 1))) = false := beq_eq_false_iff_ne.mpr c18
                  have c18b1 : ((wrap64 (x8_1 + 1)) != (wrap64 (a1 + 1))) = true := bne_iff_ne.mpr c18
                  have H' := Aside0.mk H
                  clear H
                  try go_wp2
                  have n0_ := Aside0.mk (blk_drew BK101.out)
                  have n1_ := Aside0.mk (blk_drew BK102.out)
                  have n2_ := Aside0.mk (below_drew1 HB.out)
                  clear BK101
                  clear BK102
                  clear HB
                  have BK101 := n0_
                  have BK102 := n1_
                  have HB := n2_
                  clear n0_ n1_ n2_
                  have p16 : 0 ≤ (x8_1 : Int) := of_decide_eq_true (by first | (with_reducible assumption) | assumption)
                  have q16 : x8_1 < (a0.size : Int) := of_decide_eq_true (by first | (with_reducible assumption) | assumption)
                  have hx16 := bt_at a0 x8_1
                  replace p16 := eq_true p16
                  replace q16 := eq_true q16
                  refine start_ (n := 12) (S := fun w' => w'.cell? ⟨gb102, 0, none⟩ = some (.int .i64 x103000_1) ∧ w'.cell? ⟨gb102, 1, none⟩ = some (.int .i64 a1) ∧ w'.cell? ⟨gb102, 2, none⟩ = some (.bool false)) (ds := [11]) #[false, false, false, false, false, false, false, false, false, false, false, false] (by kernel_rfl) rfl rfl ⟨(blk_cell BK102.out 0).trans rfl, (blk_cell BK102.out 1).trans rfl, (blk_cell BK102.out 2).trans rfl⟩ (fun hHeld => ?_); refine with_tabW bitset_digits.tab4 bitset_digits.bits4 (fun HT_ HW_ => ?_)
                  generalize wc.drew = w30 at BK101 BK102 HB hHeld ⊢
                  refine pure_ (i := 0) (N := some 28) (v := ?_) (a' := ?_) #[true, false, false, false, false, false, false, false, false, false, false, false] rfl rfl (any_of HT_.out (by kernel_rfl)) (fun _ _ _ h => h) (Or.inl ⟨by rfl, ?_⟩) ?_ ?_
                  rotate_left
                  · intro w'
                    go_simp
                    with_reducible rfl
                  rotate_left
                  · simp only [Act.put, List.setIfInBounds_toArray, List.set_cons_zero, List.set_cons_succ, i64_w, i32_w]
                    rfl
                  refine pure_ (i := 3) (N := some 31) (v := ?_) (a' := ?_) #[true, false, false, true, false, false, false, false, false, false, false, false] rfl rfl (any_of HT_.out (by kernel_rfl)) (fun _ _ _ h => h) (Or.inl ⟨by rfl, ?_⟩) ?_ ?_
                  rotate_left
                  · intro w'
                    go_simp
                    with_reducible rfl
                  rotate_left
                  · simp only [Act.put, List.setIfInBounds_toArray, List.set_cons_zero, List.set_cons_succ, i64_w, i32_w]
                    rfl
                  refine pure_ (i := 4) (N := some 32) (v := ?_) (a' := ?_) #[true, false, false, true, true, false, false, false, false, false, false, false] rfl rfl (any_of HT_.out (by kernel_rfl)) (fun _ _ _ h => h) (Or.inl ⟨by rfl, ?_⟩) ?_ ?_
                  rotate_left
                  · intro w'
                    go_simp
                    with_reducible rfl
                  rotate_left
                  · simp only [Act.put, List.setIfInBounds_toArray, List.set_cons_zero, List.set_cons_succ, i64_w, i32_w]
                    rfl
                  refine take_ (i := 1) (N := some 29) (v := ?_) (a' := ?_) #[true, true, false, true, true, false, false, false, false, false, false, false] rfl rfl (take_ofW HT_.out HW_.out (by kernel_rfl)) (fun _ _ _ h => h) (Or.inl ⟨by rfl, ?_⟩) hHeld ?_ ?_
                  rotate_left
                  · rintro w' ⟨s0, s1, s2⟩
                    go_simp
                    with_reducible rfl
                  rotate_left
                  · simp only [Act.put, List.setIfInBounds_toArray, List.set_cons_zero, List.set_cons_succ, i64_w, i32_w]
                    rfl
                  refine pure_ (i := 2) (N := some 30) (v := ?_) (a' := ?_) #[true, true, true, true, true, false, false, false, false, false, false, false] rfl rfl (any_of HT_.out (by kernel_rfl)) (fun _ _ _ h => h) (Or.inl ⟨by rfl, ?_⟩) ?_ ?_
                  rotate_left
                  · intro w'
                    go_simp
                    with_reducible rfl
                  rotate_left
                  · simp only [Act.put, List.setIfInBounds_toArray, List.set_cons_zero, List.set_cons_succ, i64_w, i32_w]
                    rfl
                  refine take_ (i := 5) (N := some 33) (v := ?_) (a' := ?_) #[true, true, true, true, true, true, false, false, false, false, false, false] rfl rfl (take_ofW HT_.out HW_.out (by kernel_rfl)) (fun _ _ _ h => h) (Or.inl ⟨by rfl, ?_⟩) hHeld ?_ ?_
                  rotate_left
                  · rintro w' ⟨s0, s1, s2⟩
                    go_simp
                    with_reducible rfl
                  rotate_left
                  · simp only [Act.put, List.setIfInBounds_toArray, List.set_cons_zero, List.set_cons_succ, i64_w, i32_w]
                    rfl
                  refine pure_ (i := 6) (N := some 34) (v := ?_) (a' := ?_) #[true, true, true, true, true, true, true, false, false, false, false, false] rfl rfl (any_of HT_.out (by kernel_rfl)) (fun _ _ _ h => h) (Or.inl ⟨by rfl, ?_⟩) ?_ ?_
                  rotate_left
                  · intro w'
                    go_simp
                    with_reducible rfl
                  rotate_left
                  · simp only [Act.put, List.setIfInBounds_toArray, List.set_cons_zero, List.set_cons_succ, i64_w, i32_w]
                    rfl
                  refine pure_ (i := 7) (N := some 35) (v := ?_) (a' := ?_) #[true, true, true, true, true, true, true, true, false, false, false, false] rfl rfl (any_of HT_.out (by kernel_rfl)) (fun _ _ _ h => h) (Or.inl ⟨by rfl, ?_⟩) ?_ ?_
                  rotate_left
                  · intro w'
                    go_simp
                    with_reducible rfl
                  rotate_left
                  · simp only [Act.put, List.setIfInBounds_toArray, List.set_cons_zero, List.set_cons_succ, i64_w, i32_w]
                    rfl
                  refine pure_ (i := 8) (N := some 36) (v := ?_) (a' := ?_) #[true, true, true, true, true, true, true, true, true, false, false, false] rfl rfl (any_of HT_.out (by kernel_rfl)) (fun _ _ _ h => h) (Or.inl ⟨by rfl, ?_⟩) ?_ ?_
                  rotate_left
                  · intro w'
                    go_simp
                    with_reducible rfl
                  rotate_left
                  · simp only [Act.put, List.setIfInBounds_toArray, List.set_cons_zero, List.set_cons_succ, i64_w, i32_w]
                    rfl
                  refine pure_ (i := 9) (N := some 37) (v := ?_) (a' := ?_) #[true, true, true, true, true, true, true, true, true, true, false, false] rfl rfl (any_of HT_.out (by kernel_rfl)) (fun _ _ _ h => h) (Or.inl ⟨by rfl, ?_⟩) ?_ ?_
                  rotate_left
                  · intro w'
                    go_simp
                    with_reducible rfl
                  rotate_left
                  · simp only [Act.put, List.setIfInBounds_toArray, List.set_cons_zero, List.set_cons_succ, i64_w, i32_w]
                    rfl
                  refine pure_ (i := 10) (N := some 38) (v := ?_) (a' := ?_) #[true, true, true, true, true, true, true, true, true, true, true, false] rfl rfl (any_of HT_.out (by kernel_rfl)) (fun _ _ _ h => h) (Or.inl ⟨by rfl, ?_⟩) ?_ ?_
                  rotate_left
                  · intro w'
                    go_simp
                    with_reducible rfl
                  rotate_left
                  · simp only [Act.put, List.setIfInBounds_toArray, List.set_cons_zero, List.set_cons_succ, i64_w, i32_w]
                    rfl
                  refine last_ (i := 11) (N := none) #[true, true, true, true, true, true, true, true, true, true, true, true] rfl rfl (one_of HT_.out (by kernel_rfl)) (by decide) (fun K hK => ?_)
                  have hs31 : w30.cell? ⟨gb102, 0, none⟩ = some (.int .i64 x103000_1) := (blk_cell BK102.out 0).trans rfl
                  have hfs31 := blk_frozen BK102.out 0
                  have hns31_0 := NB101_102.out
                  have hms31_0 := NB102_101.out
                  refine skip_ (w1 := ?_) (by rfl) rfl ?_ ?_
                  rotate_left
                  · go_simp
                    rfl
                  refine hK.out _ _ ?_
                  clear hK K
                  refine done_ (done_of HT_.out (by kernel_rfl)) ?_
                  try go_wp2
                  go_roundg kj6
                  case measure => have := HK1.out; have := HJ6.out; omega
                  case rel => exact ⟨(wrap64 (x8_1 + 1)), (ji17), (by first | rfl | (simp; done) | (simp [*]; done)), H', ⟨by have := HK1.out; have := HJ6.out; omega⟩, ⟨by (with_reducible repeat (first | refine blk_drewN ?_ _ | refine blk_drew ?_ | refine blk_alloc ?_ _)); refine blk_far ?_ NB101_102.out _; (with_reducible repeat (first | refine blk_drewN ?_ _ | refine blk_drew ?_ | refine blk_alloc ?_ _)); exact BK101.out⟩, ⟨by (with_reducible repeat (first | refine blk_drewN ?_ _ | refine blk_drew ?_ | refine blk_alloc ?_ _)); refine blk_put (cs := #[.int .i64 x103000_1, .int .i64 a1, .bool false]) ?_ 0 _ rfl; (with_reducible repeat (first | refine blk_drewN ?_ _ | refine blk_drew ?_ | refine blk_alloc ?_ _)); exact BK102.out⟩, ⟨by repeat (first | (with_reducible first | exact HB.out | apply below_alloc | apply pw_below_drewN | apply below_drew1 | refine below_set ?_ GE101.out | refine below_set ?_ GE102.out) | exact HB.out)⟩⟩
              · rw [if_neg c15] at H
                exact absurd H (by simp)
            · rw [if_neg c14] at H
              exact absurd H (by simp)
          · replace c13 := Bool.eq_false_iff.mpr c13
            subst c13
            have H1 : (some (x103000_1, a1, false, x8_1, decide (x8_1 > a1))) = some (r1, r2, r3, r4, r5) := by rw [if_neg (show ¬ (false = true) by decide)] at H; exact H
            clear H
            have H := H1
            clear H1
            simp only [Option.some.injEq, Prod.mk.injEq] at H
            obtain ⟨rfl, rfl, rfl, rfl, rfl⟩ := H
            have hnb32 := NB102_101.out
            have hnc32 := NB101_102.out
            have hcz33_0 : wc.cell? ⟨gb102, 0, none⟩ = some (.int .i64 x103000_1) := (blk_cell BK102.out 0).trans rfl
            have hcz33_1 : wc.cell? ⟨gb102, 1, none⟩ = some (.int .i64 a1) := (blk_cell BK102.out 1).trans rfl
            have hcz33_2 : wc.cell? ⟨gb102, 2, none⟩ = some (.bool false) := (blk_cell BK102.out 2).trans rfl
            have hfz33_0 := blk_frozen BK102.out 0
            have hfz33_1 := blk_frozen BK102.out 1
            have hfz33_2 := blk_frozen BK102.out 2
            have hcz34_0 : wc.cell? ⟨gb101, 0, none⟩ = some (.int .i64 0) := (blk_cell BK101.out 0).trans rfl
            have hcz34_1 : wc.cell? ⟨gb101, 1, none⟩ = some (.int .i64 0) := (blk_cell BK101.out 1).trans rfl
            have hcz34_2 : wc.cell? ⟨gb101, 2, none⟩ = some (.bool false) := (blk_cell BK101.out 2).trans rfl
            have hfz34_0 := blk_frozen BK101.out 0
            have hfz34_1 := blk_frozen BK101.out 1
            have hfz34_2 := blk_frozen BK101.out 2
            go_wp2
            refine bodyPost_ret (results_ctt rfl _ _ gb101 127 #[.int .i64 x103000_1, .int .i64 a1, .bool false] (0, 0) _ rfl (by (with_reducible repeat (first | refine blk_drewN ?_ _ | refine blk_drew ?_ | refine blk_alloc ?_ _)); refine blk_put (cs := #[.int .i64 x103000_1, .int .i64 a1, .bool false]) ?_ 2 _ rfl; (with_reducible repeat (first | refine blk_drewN ?_ _ | refine blk_drew ?_ | refine blk_alloc ?_ _)); refine blk_put (cs := #[.int .i64 x103000_1, .int .i64 0, .bool false]) ?_ 1 _ rfl; (with_reducible repeat (first | refine blk_drewN ?_ _ | refine blk_drew ?_ | refine blk_alloc ?_ _)); refine blk_put (cs := #[.int .i64 0, .int .i64 0, .bool false]) ?_ 0 _ rfl; (with_reducible repeat (first | refine blk_drewN ?_ _ | refine blk_drew ?_ | refine blk_alloc ?_ _)); exact BK101.out) Tryd.underlying127 rfl (by kernel_rfl)) rfl ?_
            exact ⟨by first | rfl | (simp [errW_none, errW_some] <;> rfl) | (simp [*, errW_none, errW_some] <;> rfl), by repeat (first | (with_reducible first | exact HB.out | apply below_alloc | apply pw_below_drewN | apply below_drew1 | refine below_set ?_ GE101.out | refine below_set ?_ GE102.out) | exact HB.out)⟩
end Go.Proofs.YtjmkhdhffmlhiaaDoor.PAll
end
section
namespace Go.Proofs.YtjmkhdhffmlhiaaDoor.PAll
open Go.RowKit Go.Proofs.YtjmkhdhffmlhiaaDoorW.PrintWords Go.Proofs.YtjmkhdhffmlhiaaDoorW.PrintLast Go.Proofs.YtjmkhdhffmlhiaaDoorW.PrintMore
attribute [local go_sem] max2_int min2_int max_two min_two max_three min_three max_four min_four w64_u8 w64_mod256   -- for this text's walks alone
set_option linter.unusedVariables false
set_option linter.unusedSimpArgs false
mutual
def bitset_numbers.j0 : Nat → ByteArray → List (S127) → Int → Bool → Int → Int → Bool → Option ((List (S127)) × Int)
  | 0, _, _, _, _, _, _, _ => none
  | k + 1, x0, x4, x6, x28, x107000, x107001, x107002 => if x28 = true then (some (([] : List (S127)), x6)) else (if x4.length < 5864062014805 then (bitset_numbers.l0 k x0 (x4 ++ [(⟨x107000, x107001, x107002⟩ : S127)]) (wrap64 (x6 + 1))) else (none))
def bitset_numbers.l0 : Nat → ByteArray → List (S127) → Int → Option ((List (S127)) × Int)
  | 0, _, _, _ => none
  | k + 1, x0, x4, x6 => if x6 < (x0.size : Int) then (bitset_numbers.j2 k x0 x4 x6 true) else (bitset_numbers.j2 k x0 x4 x6 (decide ((x4.length : Int) > 1)))
def bitset_numbers.j2 : Nat → ByteArray → List (S127) → Int → Bool → Option ((List (S127)) × Int)
  | 0, _, _, _, _ => none
  | k + 1, x0, x4, x6, x44 => if x44 = true then (if (x4.length : Int) > 1 then (if 0 ≤ (wrap64 (x6 - 1)) then (if (wrap64 (x6 - 1)) < (x0.size : Int) then (bitset_numbers.j3 k x0 x4 x6 ((bt x0 (wrap64 (x6 - 1))) == 45)) else (none)) else (none)) else (bitset_numbers.j3 k x0 x4 x6 false)) else (some (x4, (-1)))
def bitset_numbers.j3 : Nat → ByteArray → List (S127) → Int → Bool → Option ((List (S127)) × Int)
  | 0, _, _, _, _ => none
  | k + 1, x0, x4, x6, x8 => (bitset_digits.f k x0 x6).bind fun bt110 => (if bt110.2.2.2.2 = true then (if x4.length < 5864062014805 then ((some (x4 ++ [(⟨bt110.1, bt110.2.1, x8⟩ : S127)] : List (S127))).bind fun y115 => (if bt110.2.2.2.1 = (x0.size : Int) then (some (y115, (-1))) else (if 0 ≤ bt110.2.2.2.1 then (if bt110.2.2.2.1 < (x0.size : Int) then (if (bt x0 bt110.2.2.2.1) = 44 then (bitset_numbers.l0 k x0 y115 (wrap64 (bt110.2.2.2.1 + 1))) else (if (bt x0 bt110.2.2.2.1) = 45 then (if x8 = true then (some (([] : List (S127)), bt110.2.2.2.1)) else (bitset_numbers.l0 k x0 y115 (wrap64 (bt110.2.2.2.1 + 1)))) else (some (([] : List (S127)), bt110.2.2.2.1)))) else (none)) else (none)))) else (none)) else (some (([] : List (S127)), bt110.2.2.2.1)))
end
def bitset_numbers.f (k : Nat) (a0 : ByteArray) : Option ((List (S127)) × Int) := (bitset_digits.f k a0 0).bind fun bt101 => (if bt101.2.2.2.2 = true then (if bt101.2.2.2.1 = (a0.size : Int) then (bitset_numbers.j0 k a0 ([] : List (S127)) bt101.2.2.2.1 true bt101.1 bt101.2.1 bt101.2.2.1) else (if 0 ≤ bt101.2.2.2.1 then (if bt101.2.2.2.1 < (a0.size : Int) then (bitset_numbers.j0 k a0 ([] : List (S127)) bt101.2.2.2.1 ((bt a0 bt101.2.2.2.1) != 58) bt101.1 bt101.2.1 bt101.2.2.1) else (none)) else (none))) else (bitset_numbers.j0 k a0 ([] : List (S127)) bt101.2.2.2.1 true bt101.1 bt101.2.1 bt101.2.2.1))
set_option maxHeartbeats 8000000 in
set_option maxRecDepth 100000 in
theorem bitset_numbers.calls (k : Nat) (a0 : ByteArray) (r1 : List (S127)) (r2 : Int) (w : World) (h : bitset_numbers.f k a0 = some (r1, r2)) :
    Calls Tryd.prog 106 #[.string a0] w fun e w' => ∃ v0_ : Value, e = .returned (.tuple #[v0_, .int .i64 r2]) ∧ Kd.R k127 127 w' w.heap.size (fun _ => True) v0_ r1 ∧ Below w.heap.size w w' := by
  have hu127 := Tryd.underlying127
  have HB := Aside0.mk (Below.refl w.heap.size w)
  have H : ((bitset_digits.f k a0 0).bind fun bt101 => (if bt101.2.2.2.2 = true then (if bt101.2.2.2.1 = (a0.size : Int) then (bitset_numbers.j0 k a0 ([] : List (S127)) bt101.2.2.2.1 true bt101.1 bt101.2.1 bt101.2.2.1) else (if 0 ≤ bt101.2.2.2.1 then (if bt101.2.2.2.1 < (a0.size : Int) then (bitset_numbers.j0 k a0 ([] : List (S127)) bt101.2.2.2.1 ((bt a0 bt101.2.2.2.1) != 58) bt101.1 bt101.2.1 bt101.2.2.1) else (none)) else (none))) else (bitset_numbers.j0 k a0 ([] : List (S127)) bt101.2.2.2.1 true bt101.1 bt101.2.1 bt101.2.2.1))) = some (r1, r2) := h
  clear h
  replace H := Option.bind_eq_some_iff.mp H
  obtain ⟨⟨t101, t102, t103, t104, t105⟩, A20, H⟩ := H
  replace H : (if t105 = true then (if t104 = (a0.size : Int) then (bitset_numbers.j0 k a0 ([] : List (S127)) t104 true t101 t102 t103) else (if 0 ≤ t104 then (if t104 < (a0.size : Int) then (bitset_numbers.j0 k a0 ([] : List (S127)) t104 ((bt a0 t104) != 58) t101 t102 t103) else (none)) else (none))) else (bitset_numbers.j0 k a0 ([] : List (S127)) t104 true t101 t102 t103)) = some (r1, r2) := H
  have A2 := Aside0.mk A20
  clear A20
  have HC3 := Aside0.mk H
  clear H
  go_enter Tryd.func106, Tryd.ntmps106
  go_upto_region 3 with (first | ((with_reducible refine gate_callee (f := 123) rfl ?_); refine goesL_ (some 11) rfl rfl Tryd.func123 (by kernel_rfl) rfl #[.string a0, .int .i64 0] rfl (by (try simp only [List.map_toArray, List.map_cons, List.map_nil]); first | done | rfl | (simp only [List.length_drop, List.length_take]; rfl)) ?_; (with_reducible refine (bitset_digits.calls k a0 0 t101 t102 t103 t104 t105 _ A2.out).mono ?_); rintro e w4 ⟨rfl, hb⟩; refine ⟨_, rfl, ?_⟩; have n0_ := Aside0.mk (below_step (by repeat (first | (with_reducible first | exact HB.out | apply below_alloc | apply pw_below_drewN | apply below_drew1) | exact HB.out)) hb); clear HB; have HB := n0_; clear n0_; (try clear hb); (try clear hb2); (try clear hk); (try clear hi)) | ((with_reducible refine gate_dst (N := 5) rfl ?_); (try (refine gate_guard (by rfl) ?_; dsimp only)); refine box_event ?hg (N := 5) ?hd (cs := #[.int .i64 0, .int .i64 0, .bool false]) (t := 127) ?hr ?_; (case hd => rfl); (case hg => rfl); (case hr => first | (go_simp; done) | (go_simp; rfl)); intro gb106 hg w5 hbox hb; have n0_ := Aside0.mk (below_step (by repeat (first | (with_reducible first | exact HB.out | apply below_alloc | apply pw_below_drewN | apply below_drew1) | exact HB.out)) hb); have n1_ := Aside0.mk (hbox); have n2_ := Aside0.mk ((by rw [hg]; exact (below_size (by repeat (first | (with_reducible first | exact HB.out | apply below_alloc | apply pw_below_drewN | apply below_drew1) | exact HB.out))) : w.heap.size ≤ gb106)); have n3_ := Aside0.mk ((by rw [hg]; exact (below_size (by repeat (first | (with_reducible first | exact HB.out | apply below_alloc | apply pw_below_drewN | apply below_drew1) | exact HB.out))) : w.heap.size ≤ gb106)); clear HB; have HB := n0_; have BK106 := n1_; have GW106 := n2_; have GE106 := n3_; clear n0_ n1_ n2_ n3_; clear hb hbox hg; have hcz6_0 : w5.cell? ⟨gb106, 0, none⟩ = some (.int .i64 0) := (blk_cell BK106.out 0).trans rfl; have hcz6_1 : w5.cell? ⟨gb106, 1, none⟩ = some (.int .i64 0) := (blk_cell BK106.out 1).trans rfl; have hcz6_2 : w5.cell? ⟨gb106, 2, none⟩ = some (.bool false) := (blk_cell BK106.out 2).trans rfl; have hfz6_0 := blk_frozen BK106.out 0; have hfz6_1 := blk_frozen BK106.out 1; have hfz6_2 := blk_frozen BK106.out 2))
  (try simp only [Act.put, List.setIfInBounds_toArray, List.set_cons_zero, List.set_cons_succ])
  go_cut [28] (fun v28 wc => ∃ (kq : Nat) (x28_2 : Bool), v28 = .bool x28_2 ∧ Aside0 (bitset_numbers.j0 kq a0 ([] : List (S127)) t104 x28_2 t101 t102 t103 = some (r1, r2)) ∧ Aside0 (kq ≤ k) ∧ Aside0 (Kd.R k127 127 wc w.heap.size (fun k_ => k_ ≠ gb106) (.slice none 0 0) ([] : List (S127))) ∧ Aside0 (wc.heap[gb106]? = some (.cells #[.int .i64 t101, .int .i64 t102, .bool t103] 127 (0, 0))) ∧ Aside0 (Below w.heap.size w wc))
  case first =>
    have H := HC3.out
    clear HC3
    by_cases c7 : t105 = true
    · subst c7
      have H1 : (if t104 = (a0.size : Int) then (bitset_numbers.j0 k a0 ([] : List (S127)) t104 true t101 t102 t103) else (if 0 ≤ t104 then (if t104 < (a0.size : Int) then (bitset_numbers.j0 k a0 ([] : List (S127)) t104 ((bt a0 t104) != 58) t101 t102 t103) else (none)) else (none))) = some (r1, r2) := by rw [if_pos rfl] at H; exact H
      clear H
      have H := H1
      clear H1
      by_cases c8 : t104 = (a0.size : Int)
      · rw [if_pos c8] at H
        have c8b0 : (t104 == (a0.size : Int)) = true := beq_iff_eq.mpr c8
        have c8b1 : (t104 != (a0.size : Int)) = false := bne_eq_false_iff_eq.mpr c8
        clear c8
        (first | rw [c8b0] | (simp only [i64_w, i32_w]; rw [c8b0]) | skip)
        have H' := Aside0.mk H
        clear H
        go_wp2
        go_meet
        case rel => exact ⟨_, (true), (by first | rfl | (simp; done) | (simp [*]; done)), H', ⟨by first | omega | exact Nat.le_refl _⟩, ⟨by first | exact Kd.R_nil _ _ _ _ _ | exact Kd.N_nil _ _ _ _ _ | exact Kd.V_nil _ _ _ _ _ | exact Kd.Q_nil _ _ _ _ _ | exact Kd.S_nil _ _ _ _ _⟩, ⟨by (with_reducible repeat (first | refine blk_drewN ?_ _ | refine blk_drew ?_ | refine blk_alloc ?_ _)); refine blk_put (cs := #[.int .i64 t101, .int .i64 t102, .bool false]) ?_ 2 _ rfl; (with_reducible repeat (first | refine blk_drewN ?_ _ | refine blk_drew ?_ | refine blk_alloc ?_ _)); refine blk_put (cs := #[.int .i64 t101, .int .i64 0, .bool false]) ?_ 1 _ rfl; (with_reducible repeat (first | refine blk_drewN ?_ _ | refine blk_drew ?_ | refine blk_alloc ?_ _)); refine blk_put (cs := #[.int .i64 0, .int .i64 0, .bool false]) ?_ 0 _ rfl; (with_reducible repeat (first | refine blk_drewN ?_ _ | refine blk_drew ?_ | refine blk_alloc ?_ _)); exact BK106.out⟩, ⟨by repeat (first | (with_reducible first | exact HB.out | apply below_alloc | apply pw_below_drewN | apply below_drew1 | refine below_set ?_ GE106.out) | exact HB.out)⟩⟩
      · rw [if_neg c8] at H
        have c8b0 : (t104 == (a0.size : Int)) = false := beq_eq_false_iff_ne.mpr c8
        have c8b1 : (t104 != (a0.size : Int)) = true := bne_iff_ne.mpr c8
        (first | rw [c8b0] | (simp only [i64_w, i32_w]; rw [c8b0]) | skip)
        by_cases c9 : 0 ≤ t104
        · rw [if_pos c9] at H
          have c9b0 : decide (0 ≤ t104) = true := decide_eq_true c9
          clear c9
          by_cases c10 : t104 < (a0.size : Int)
          · rw [if_pos c10] at H
            have c10b0 : decide (t104 < (a0.size : Int)) = true := decide_eq_true c10
            clear c10
            have H' := Aside0.mk H
            clear H
            have p11 : 0 ≤ (t104 : Int) := of_decide_eq_true (by first | (with_reducible assumption) | assumption)
            have q11 : t104 < (a0.size : Int) := of_decide_eq_true (by first | (with_reducible assumption) | assumption)
            have hx11 := bt_at a0 t104
            replace p11 := eq_true p11
            replace q11 := eq_true q11
            go_wp2
            go_meet
            case rel => exact ⟨_, (((bt a0 t104) != 58)), (by first | rfl | (simp; done) | (simp [*]; done)), H', ⟨by first | omega | exact Nat.le_refl _⟩, ⟨by first | exact Kd.R_nil _ _ _ _ _ | exact Kd.N_nil _ _ _ _ _ | exact Kd.V_nil _ _ _ _ _ | exact Kd.Q_nil _ _ _ _ _ | exact Kd.S_nil _ _ _ _ _⟩, ⟨by (with_reducible repeat (first | refine blk_drewN ?_ _ | refine blk_drew ?_ | refine blk_alloc ?_ _)); refine blk_put (cs := #[.int .i64 t101, .int .i64 t102, .bool false]) ?_ 2 _ rfl; (with_reducible repeat (first | refine blk_drewN ?_ _ | refine blk_drew ?_ | refine blk_alloc ?_ _)); refine blk_put (cs := #[.int .i64 t101, .int .i64 0, .bool false]) ?_ 1 _ rfl; (with_reducible repeat (first | refine blk_drewN ?_ _ | refine blk_drew ?_ | refine blk_alloc ?_ _)); refine blk_put (cs := #[.int .i64 0, .int .i64 0, .bool false]) ?_ 0 _ rfl; (with_reducible repeat (first | refine blk_drewN ?_ _ | refine blk_drew ?_ | refine blk_alloc ?_ _)); exact BK106.out⟩, ⟨by repeat (first | (with_reducible first | exact HB.out | apply below_alloc | apply pw_below_drewN | apply below_drew1 | refine below_set ?_ GE106.out) | exact HB.out)⟩⟩
          · rw [if_neg c10] at H
            exact absurd H (by simp)
        · rw [if_neg c9] at H
          exact absurd H (by simp)
    · replace c7 := Bool.eq_false_iff.mpr c7
      subst c7
      have H1 : (bitset_numbers.j0 k a0 ([] : List (S127)) t104 true t101 t102 t103) = some (r1, r2) := by rw [if_neg (show ¬ (false = true) by decide)] at H; exact H
      clear H
      have H := H1
      clear H1
      have H' := Aside0.mk H
      clear H
      go_wp2
      go_meet
      case rel => exact ⟨_, (true), (by first | rfl | (simp; done) | (simp [*]; done)), H', ⟨by first | omega | exact Nat.le_refl _⟩, ⟨by first | exact Kd.R_nil _ _ _ _ _ | exact Kd.N_nil _ _ _ _ _ | exact Kd.V_nil _ _ _ _ _ | exact Kd.Q_nil _ _ _ _ _ | exact Kd.S_nil _ _ _ _ _⟩, ⟨by (with_reducible repeat (first | refine blk_drewN ?_ _ | refine blk_drew ?_ | refine blk_alloc ?_ _)); refine blk_put (cs := #[.int .i64 t101, .int .i64 t102, .bool false]) ?_ 2 _ rfl; (with_reducible repeat (first | refine blk_drewN ?_ _ | refine blk_drew ?_ | refine blk_alloc ?_ _)); refine blk_put (cs := #[.int .i64 t101, .int .i64 0, .bool false]) ?_ 1 _ rfl; (with_reducible repeat (first | refine blk_drewN ?_ _ | refine blk_drew ?_ | refine blk_alloc ?_ _)); refine blk_put (cs := #[.int .i64 0, .int .i64 0, .bool false]) ?_ 0 _ rfl; (with_reducible repeat (first | refine blk_drewN ?_ _ | refine blk_drew ?_ | refine blk_alloc ?_ _)); exact BK106.out⟩, ⟨by repeat (first | (with_reducible first | exact HB.out | apply below_alloc | apply pw_below_drewN | apply below_drew1 | refine below_set ?_ GE106.out) | exact HB.out)⟩⟩
  case rest =>
    clear HC3
    try clear c1
    try clear p1
    try clear q1
    try clear hx1
    try clear p2
    try clear c7
    try clear c8
    try clear c8b0
    try clear c8b1
    try clear c9
    try clear c9b0
    try clear c10
    try clear c10b0
    try clear p11
    try clear q11
    try clear hx11
    try clear hcz6_0
    try clear hcz6_1
    try clear hcz6_2
    try clear hfz6_0
    try clear hfz6_1
    try clear hfz6_2
    try clear p11
    try clear q11
    obtain ⟨kq, x28_2, rfl, HA, HJ2, HO_4, BK106, HB⟩ := hcut
    cases kq with
    | zero => exact absurd HA.out (by simp [bitset_numbers.j0])
    | succ kj2 =>
      have H := HA.out
      clear HA
      simp only [bitset_numbers.j0] at H
      by_cases c12 : x28_2 = true
      · subst c12
        have H1 : (some (([] : List (S127)), t104)) = some (r1, r2) := by rw [if_pos rfl] at H; exact H
        clear H
        have H := H1
        clear H1
        simp only [Option.some.injEq, Prod.mk.injEq] at H
        obtain ⟨rfl, rfl⟩ := H
        go_wp2
        go_ret2
        exact ⟨_, by first | rfl | (simp [errW_none, errW_some] <;> rfl) | (simp [*, errW_none, errW_some] <;> rfl), by first | exact Kd.R_nil _ _ _ _ _ | exact Kd.N_nil _ _ _ _ _ | exact Kd.V_nil _ _ _ _ _ | exact Kd.Q_nil _ _ _ _ _ | exact Kd.S_nil _ _ _ _ _, by repeat (first | (with_reducible first | exact HB.out | apply below_alloc | apply pw_below_drewN | apply below_drew1 | refine below_set ?_ GE106.out) | exact HB.out)⟩
      · replace c12 := Bool.eq_false_iff.mpr c12
        subst c12
        have H1 : (if ([] : List (S127)).length < 5864062014805 then (bitset_numbers.l0 kj2 a0 (([] : List (S127)) ++ [(⟨t101, t102, t103⟩ : S127)]) (wrap64 (t104 + 1))) else (none)) = some (r1, r2) := by rw [if_neg (show ¬ (false = true) by decide)] at H; exact H
        clear H
        have H := H1
        clear H1
        by_cases c13 : ([] : List (S127)).length < 5864062014805
        · rw [if_pos c13] at H
          have LMc13 := Aside0.mk c13
          clear c13
          obtain ⟨y107, hy107⟩ : ∃ y_ : List (S127), y_ = (([] : List (S127)) ++ [(⟨t101, t102, t103⟩ : S127)]) := ⟨_, rfl⟩
          replace H : (bitset_numbers.l0 kj2 a0 y107 (wrap64 (t104 + 1))) = some (r1, r2) := by first | (rw [hy107]; with_reducible exact H) | (have H2_ := (Option.bind_some _ _).symm.trans H; rw [hy107]; with_reducible exact H2_) | (have H2_ := (Option.bind_some _ _).symm.trans H; with_reducible exact H2_) | with_reducible exact H | (rw [hy107]; exact H) | exact H
          have Ny107 := Aside0.mk hy107
          clear hy107
          have H' := Aside0.mk H
          clear H
          have hcz14_0 : wc.cell? ⟨gb106, 0, none⟩ = some (.int .i64 t101) := (blk_cell BK106.out 0).trans rfl
          have hcz14_1 : wc.cell? ⟨gb106, 1, none⟩ = some (.int .i64 t102) := (blk_cell BK106.out 1).trans rfl
          have hcz14_2 : wc.cell? ⟨gb106, 2, none⟩ = some (.bool t103) := (blk_cell BK106.out 2).trans rfl
          have hfz14_0 := blk_frozen BK106.out 0
          have hfz14_1 := blk_frozen BK106.out 1
          have hfz14_2 := blk_frozen BK106.out 2
          go_wp2_with (first | ((with_reducible refine gate_builtin (b := .append) (xs := #[.tmp 30, .tmp 32]) rfl ?_); (try (refine gate_guard (by rfl) ?_; dsimp only)); at_builtin; refine Kd.R_append k127 (w0 := w) w.heap.size rfl (.tmp 30) (.tmp 32) 123 127 (.agg #[(.int .i64 0), (.int .i64 0), (.bool false)]) 24 rfl Tryd.underlying123 info127 rfl (by decide) (by omega) (.slice none 0 0) ([] : List (S127)) (⟨t101, t102, t103⟩ : S127) [.int .i64 t101, .int .i64 t102, .bool t103] (fun k_ => k_ ≠ gb106) (fun _ => False) rfl rfl ?aP (fun _ hk => hk.elim) ?aF ?aO ?aB ?aS ?aL ?_; (case aP => exact k127_mkM _ _ _ (⟨t101, t102, t103⟩ : S127)); (case aB => exact (by repeat (first | (with_reducible first | exact HB.out | apply below_alloc | apply pw_below_drewN | apply below_drew1 | refine below_set ?_ GE106.out) | exact HB.out))); (case aF => exact (fun k_ hk => Kd.freshB (g := gb106) (o := .cells #[.int .i64 t101, .int .i64 t102, .bool t103] 127 (0, 0)) (by (with_reducible repeat (first | refine blk_drewN ?_ _ | refine blk_drew ?_ | refine blk_alloc ?_ _)); exact BK106.out) k_ hk)); (case aO => exact (by (with_reducible repeat (first | apply Kd.R_alloc | apply Kd.R_drewN | apply Kd.R_drew)); exact HO_4.out)); (case aS => exact (below_size (by repeat (first | (with_reducible first | exact HB.out | apply below_alloc | apply pw_below_drewN | apply below_drew1 | refine below_set ?_ GE106.out) | exact HB.out)))); (case aL => have := LMc13.out; omega); intro v108 w15 ho hb hg hat; rw [← Ny107.out] at ho; have n0_ := Aside0.mk (blk_grown (g := gb106) (o := .cells #[.int .i64 t101, .int .i64 t102, .bool t103] 127 (0, 0)) (by (with_reducible repeat (first | refine blk_drewN ?_ _ | refine blk_drew ?_ | refine blk_alloc ?_ _)); exact BK106.out) hg (Kd.R_away HO_4.out (fun _ hk => hk))); have n1_ := Aside0.mk (hb); have n2_ := Aside0.mk (ho); clear BK106; clear HB; clear HO_4; have BK106 := n0_; have HB := n1_; have HO109 := n2_; clear n0_ n1_ n2_; clear ho hb hg hat))
          go_loopg [4, 6] kj2 (fun kq v4 v6 w' => ∃ (x4_2 : List (S127)) (x6_2 : Int) (x107000_2 : Int) (x107001_2 : Int) (x107002_2 : Bool), v6 = .int .i64 x6_2 ∧ Aside0 (bitset_numbers.l0 kq a0 x4_2 x6_2 = some (r1, r2)) ∧ Aside0 (kq ≤ kj2) ∧ Aside0 (Kd.R k127 127 w' w.heap.size (fun k_ => k_ ≠ gb106) v4 x4_2) ∧ Aside0 (w'.heap[gb106]? = some (.cells #[.int .i64 x107000_2, .int .i64 x107001_2, .bool x107002_2] 127 (0, 0))) ∧ Aside0 (Below w.heap.size w w'))
          case atStart => exact ⟨(y107), (wrap64 (t104 + 1)), (t101), (t102), (t103), (by first | rfl | (simp; done) | (simp [*]; done)), H', ⟨Nat.le_refl _⟩, ⟨by (with_reducible repeat (first | apply Kd.R_alloc | apply Kd.R_drewN | apply Kd.R_drew)); exact HO109.out⟩, ⟨by (with_reducible repeat (first | refine blk_drewN ?_ _ | refine blk_drew ?_ | refine blk_alloc ?_ _)); exact BK106.out⟩, ⟨by repeat (first | (with_reducible first | exact HB.out | apply below_alloc | apply pw_below_drewN | apply below_drew1 | refine below_set ?_ GE106.out) | exact HB.out)⟩⟩
          case round =>
            clear H'
            try clear c1
            try clear p1
            try clear q1
            try clear hx1
            try clear p2
            try clear p6
            try clear c7
            try clear c8
            try clear c8b0
            try clear c8b1
            try clear c9
            try clear c9b0
            try clear c10
            try clear c10b0
            try clear p11
            try clear q11
            try clear hx11
            try clear c12
            try clear c13
            try clear hcz14_0
            try clear hcz14_1
            try clear hcz14_2
            try clear hcz6_0
            try clear hcz6_1
            try clear hcz6_2
            try clear hfz14_0
            try clear hfz14_1
            try clear hfz14_2
            try clear hfz6_0
            try clear hfz6_1
            try clear hfz6_2
            try clear p1
            try clear p11
            try clear p2
            try clear q1
            try clear q11
            obtain ⟨x4_2, x6_2, x107000_2, x107001_2, x107002_2, rfl, HA, HK2, HO_4, BK106, HB⟩ := hrel
            cases gk with
            | zero => exact absurd HA.out (by simp [bitset_numbers.l0])
            | succ k2 =>
              have H := HA.out
              clear HA
              simp only [bitset_numbers.l0] at H
              have HC16 := Aside0.mk H
              clear H
              go_upto_region 7 with (fail)
              go_cut [44] (fun v44 wc => ∃ (kq : Nat) (x44_15 : Bool), v44 = .bool x44_15 ∧ Aside0 (bitset_numbers.j2 kq a0 x4_2 x6_2 x44_15 = some (r1, r2)) ∧ Aside0 (kq ≤ k2) ∧ Aside0 (Kd.R k127 127 wc w.heap.size (fun k_ => k_ ≠ gb106) u4 x4_2) ∧ Aside0 (wc.heap[gb106]? = some (.cells #[.int .i64 x107000_2, .int .i64 x107001_2, .bool x107002_2] 127 (0, 0))) ∧ Aside0 (Below w.heap.size w wc))
              case first =>
                have H := HC16.out
                clear HC16
                by_cases c17 : x6_2 < (a0.size : Int)
                · rw [if_pos c17] at H
                  have c17b0 : decide (x6_2 < (a0.size : Int)) = true := decide_eq_true c17
                  clear c17
                  (first | rw [c17b0] | (simp only [i64_w, i32_w]; rw [c17b0]) | skip)
                  have H' := Aside0.mk H
                  clear H
                  go_wp2
                  go_meet
                  case rel => exact ⟨_, (true), (by first | rfl | (simp; done) | (simp [*]; done)), H', ⟨by have := HJ2.out; have := HK2.out; first | omega | exact Nat.le_refl _⟩, ⟨by (with_reducible repeat (first | apply Kd.R_alloc | apply Kd.R_drewN | apply Kd.R_drew)); exact HO_4.out⟩, ⟨by (with_reducible repeat (first | refine blk_drewN ?_ _ | refine blk_drew ?_ | refine blk_alloc ?_ _)); exact BK106.out⟩, ⟨by repeat (first | (with_reducible first | exact HB.out | apply below_alloc | apply pw_below_drewN | apply below_drew1 | refine below_set ?_ GE106.out) | exact HB.out)⟩⟩
                · rw [if_neg c17] at H
                  have c17b0 : decide (x6_2 < (a0.size : Int)) = false := decide_eq_false c17
                  clear c17
                  (first | rw [c17b0] | (simp only [i64_w, i32_w]; rw [c17b0]) | skip)
                  have H' := Aside0.mk H
                  clear H
                  obtain ⟨Ao18, co18, eo18⟩ := Kd.R_slice HO_4.out
                  subst eo18
                  go_wp2
                  go_meet
                  case rel => exact ⟨_, (decide ((x4_2.length : Int) > 1)), (by first | rfl | (simp; done) | (simp [*]; done)), H', ⟨by have := HJ2.out; have := HK2.out; first | omega | exact Nat.le_refl _⟩, ⟨by (with_reducible repeat (first | apply Kd.R_alloc | apply Kd.R_drewN | apply Kd.R_drew)); exact HO_4.out⟩, ⟨by (with_reducible repeat (first | refine blk_drewN ?_ _ | refine blk_drew ?_ | refine blk_alloc ?_ _)); exact BK106.out⟩, ⟨by repeat (first | (with_reducible first | exact HB.out | apply below_alloc | apply pw_below_drewN | apply below_drew1 | refine below_set ?_ GE106.out) | exact HB.out)⟩⟩
              case rest =>
                clear HC16
                try clear c1
                try clear p1
                try clear q1
                try clear hx1
                try clear p2
                try clear p6
                try clear c7
                try clear c8
                try clear c8b0
                try clear c8b1
                try clear c9
                try clear c9b0
                try clear c10
                try clear c10b0
                try clear p11
                try clear q11
                try clear hx11
                try clear c12
                try clear c13
                try clear c17
                try clear c17b0
                try clear hcz14_0
                try clear hcz14_1
                try clear hcz14_2
                try clear hcz6_0
                try clear hcz6_1
                try clear hcz6_2
                try clear hfz14_0
                try clear hfz14_1
                try clear hfz14_2
                try clear hfz6_0
                try clear hfz6_1
                try clear hfz6_2
                try clear p1
                try clear p11
                try clear p2
                try clear p6
                try clear q1
                try clear q11
                obtain ⟨kq, x44_15, rfl, HA, HJ15, HO_4, BK106, HB⟩ := hcut
                cases kq with
                | zero => exact absurd HA.out (by simp [bitset_numbers.j2])
                | succ kj15 =>
                  have H := HA.out
                  clear HA
                  simp only [bitset_numbers.j2] at H
                  by_cases c19 : x44_15 = true
                  · subst c19
                    have H1 : (if (x4_2.length : Int) > 1 then (if 0 ≤ (wrap64 (x6_2 - 1)) then (if (wrap64 (x6_2 - 1)) < (a0.size : Int) then (bitset_numbers.j3 kj15 a0 x4_2 x6_2 ((bt a0 (wrap64 (x6_2 - 1))) == 45)) else (none)) else (none)) else (bitset_numbers.j3 kj15 a0 x4_2 x6_2 false)) = some (r1, r2) := by rw [if_pos rfl] at H; exact H
                    clear H
                    have H := H1
                    clear H1
                    have HC20 := Aside0.mk H
                    clear H
                    go_upto_region 9 with (fail)
                    go_cut [8] (fun v8 wc => ∃ (kq : Nat) (x8_19 : Bool), v8 = .bool x8_19 ∧ Aside0 (bitset_numbers.j3 kq a0 x4_2 x6_2 x8_19 = some (r1, r2)) ∧ Aside0 (kq ≤ kj15) ∧ Aside0 (Kd.R k127 127 wc w.heap.size (fun k_ => k_ ≠ gb106) u4 x4_2) ∧ Aside0 (wc.heap[gb106]? = some (.cells #[.int .i64 x107000_2, .int .i64 x107001_2, .bool x107002_2] 127 (0, 0))) ∧ Aside0 (Below w.heap.size w wc))
                    case first =>
                      have H := HC20.out
                      clear HC20
                      by_cases c21 : (x4_2.length : Int) > 1
                      · rw [if_pos c21] at H
                        have c21b0 : decide (1 < (x4_2.length : Int)) = true := decide_eq_true c21
                        have c21b1 : decide (1 < x4_2.length) = true := decide_eq_true (by omega)
                        clear c21
                        (first | rw [c21b0] | (simp only [i64_w, i32_w]; rw [c21b0]) | skip)
                        obtain ⟨ji22, hji22⟩ : ∃ j_ : Int, (wrap64 (x6_2 - 1)) = j_ := ⟨_, rfl⟩
                        replace H : (if 0 ≤ (ji22) then (if (ji22) < (a0.size : Int) then (bitset_numbers.j3 kj15 a0 x4_2 x6_2 ((bt a0 (ji22)) == 45)) else (none)) else (none)) = some (r1, r2) := by first | (rw [hji22] at H; exact H) | (simp only [hji22] at H ⊢; exact H)
                        have hji22w : (IntKind.i64.wrap (x6_2 - 1)) = ji22 := (i64_w _).trans hji22
                        by_cases c23 : 0 ≤ (ji22)
                        · rw [if_pos c23] at H
                          have c23b0 : decide (0 ≤ (ji22)) = true := decide_eq_true c23
                          clear c23
                          by_cases c24 : (ji22) < (a0.size : Int)
                          · rw [if_pos c24] at H
                            have c24b0 : decide ((ji22) < (a0.size : Int)) = true := decide_eq_true c24
                            clear c24
                            have H' := Aside0.mk H
                            clear H
                            obtain ⟨Ao26, co26, eo26⟩ := Kd.R_slice HO_4.out
                            subst eo26
                            have p25 : 0 ≤ ((ji22) : Int) := of_decide_eq_true (by first | (with_reducible assumption) | assumption)
                            have q25 : (ji22) < (a0.size : Int) := of_decide_eq_true (by first | (with_reducible assumption) | assumption)
                            have hx25 := bt_at a0 (ji22)
                            replace p25 := eq_true p25
                            replace q25 := eq_true q25
                            go_wp2
                            go_meet
                            case rel => exact ⟨_, (((bt a0 (ji22)) == 45)), (by first | rfl | (simp; done) | (simp only [← hji22] <;> (first | rfl | simp)) | (simp [*]; done)), H', ⟨by have := HJ2.out; have := HK2.out; have := HJ15.out; first | omega | exact Nat.le_refl _⟩, ⟨by (with_reducible repeat (first | apply Kd.R_alloc | apply Kd.R_drewN | apply Kd.R_drew)); exact HO_4.out⟩, ⟨by (with_reducible repeat (first | refine blk_drewN ?_ _ | refine blk_drew ?_ | refine blk_alloc ?_ _)); exact BK106.out⟩, ⟨by repeat (first | (with_reducible first | exact HB.out | apply below_alloc | apply pw_below_drewN | apply below_drew1 | refine below_set ?_ GE106.out) | exact HB.out)⟩⟩
                          · rw [if_neg c24] at H
                            exact absurd H (by simp)
                        · rw [if_neg c23] at H
                          exact absurd H (by simp)
                      · rw [if_neg c21] at H
                        have c21b0 : decide (1 < (x4_2.length : Int)) = false := decide_eq_false c21
                        have c21b1 : decide (1 < x4_2.length) = false := decide_eq_false (by omega)
                        clear c21
                        (first | rw [c21b0] | (simp only [i64_w, i32_w]; rw [c21b0]) | skip)
                        have H' := Aside0.mk H
                        clear H
                        obtain ⟨Ao27, co27, eo27⟩ := Kd.R_slice HO_4.out
                        subst eo27
                        go_wp2
                        go_meet
                        case rel => exact ⟨_, (false), (by first | rfl | (simp; done) | (simp [*]; done)), H', ⟨by have := HJ2.out; have := HK2.out; have := HJ15.out; first | omega | exact Nat.le_refl _⟩, ⟨by (with_reducible repeat (first | apply Kd.R_alloc | apply Kd.R_drewN | apply Kd.R_drew)); exact HO_4.out⟩, ⟨by (with_reducible repeat (first | refine blk_drewN ?_ _ | refine blk_drew ?_ | refine blk_alloc ?_ _)); exact BK106.out⟩, ⟨by repeat (first | (with_reducible first | exact HB.out | apply below_alloc | apply pw_below_drewN | apply below_drew1 | refine below_set ?_ GE106.out) | exact HB.out)⟩⟩
                    case rest =>
                      clear HC20
                      try clear c1
                      try clear p1
                      try clear q1
                      try clear hx1
                      try clear c2
                      try clear p2
                      try clear q2
                      try clear hx2
                      try clear p6
                      try clear c7
                      try clear c8
                      try clear c8b0
                      try clear c8b1
                      try clear c9
                      try clear c9b0
                      try clear c10
                      try clear c10b0
                      try clear p11
                      try clear q11
                      try clear hx11
                      try clear c12
                      try clear c13
                      try clear c17
                      try clear c17b0
                      try clear c19
                      try clear c21
                      try clear c21b0
                      try clear c21b1
                      try clear c23
                      try clear c23b0
                      try clear c24
                      try clear c24b0
                      try clear p25
                      try clear q25
                      try clear hx25
                      try clear hcz14_0
                      try clear hcz14_1
                      try clear hcz14_2
                      try clear hcz6_0
                      try clear hcz6_1
                      try clear hcz6_2
                      try clear hfz14_0
                      try clear hfz14_1
                      try clear hfz14_2
                      try clear hfz6_0
                      try clear hfz6_1
                      try clear hfz6_2
                      try clear p1
                      try clear p11
                      try clear p2
                      try clear p25
                      try clear p6
                      try clear q1
                      try clear q11
                      try clear q25
                      obtain ⟨kq, x8_19, rfl, HA, HJ19, HO_4, BK106, HB⟩ := hcut
                      cases kq with
                      | zero => exact absurd HA.out (by simp [bitset_numbers.j3])
                      | succ kj19 =>
                        have H := HA.out
                        clear HA
                        simp only [bitset_numbers.j3] at H
                        replace H := Option.bind_eq_some_iff.mp H
                        obtain ⟨⟨t110, t111, t112, t113, t114⟩, A280, H⟩ := H
                        replace H : (if t114 = true then (if x4_2.length < 5864062014805 then ((some (x4_2 ++ [(⟨t110, t111, x8_19⟩ : S127)] : List (S127))).bind fun y115 => (if t113 = (a0.size : Int) then (some (y115, (-1))) else (if 0 ≤ t113 then (if t113 < (a0.size : Int) then (if (bt a0 t113) = 44 then (bitset_numbers.l0 kj19 a0 y115 (wrap64 (t113 + 1))) else (if (bt a0 t113) = 45 then (if x8_19 = true then (some (([] : List (S127)), t113)) else (bitset_numbers.l0 kj19 a0 y115 (wrap64 (t113 + 1)))) else (some (([] : List (S127)), t113)))) else (none)) else (none)))) else (none)) else (some (([] : List (S127)), t113))) = some (r1, r2) := H
                        have A28 := Aside0.mk A280
                        clear A280
                        by_cases c29 : t114 = true
                        · subst c29
                          have H1 : (if x4_2.length < 5864062014805 then ((some (x4_2 ++ [(⟨t110, t111, x8_19⟩ : S127)] : List (S127))).bind fun y115 => (if t113 = (a0.size : Int) then (some (y115, (-1))) else (if 0 ≤ t113 then (if t113 < (a0.size : Int) then (if (bt a0 t113) = 44 then (bitset_numbers.l0 kj19 a0 y115 (wrap64 (t113 + 1))) else (if (bt a0 t113) = 45 then (if x8_19 = true then (some (([] : List (S127)), t113)) else (bitset_numbers.l0 kj19 a0 y115 (wrap64 (t113 + 1)))) else (some (([] : List (S127)), t113)))) else (none)) else (none)))) else (none)) = some (r1, r2) := by rw [if_pos rfl] at H; exact H
                          clear H
                          have H := H1
                          clear H1
                          by_cases c30 : x4_2.length < 5864062014805
                          · rw [if_pos c30] at H
                            have LMc30 := Aside0.mk c30
                            clear c30
                            obtain ⟨y115, hy115⟩ : ∃ y_ : List (S127), y_ = (x4_2 ++ [(⟨t110, t111, x8_19⟩ : S127)]) := ⟨_, rfl⟩
                            replace H : (if t113 = (a0.size : Int) then (some (y115, (-1))) else (if 0 ≤ t113 then (if t113 < (a0.size : Int) then (if (bt a0 t113) = 44 then (bitset_numbers.l0 kj19 a0 y115 (wrap64 (t113 + 1))) else (if (bt a0 t113) = 45 then (if x8_19 = true then (some (([] : List (S127)), t113)) else (bitset_numbers.l0 kj19 a0 y115 (wrap64 (t113 + 1)))) else (some (([] : List (S127)), t113)))) else (none)) else (none))) = some (r1, r2) := by first | (rw [hy115]; with_reducible exact H) | (have H2_ := (Option.bind_some _ _).symm.trans H; rw [hy115]; with_reducible exact H2_) | (have H2_ := (Option.bind_some _ _).symm.trans H; with_reducible exact H2_) | with_reducible exact H | (rw [hy115]; exact H) | exact H
                            have Ny115 := Aside0.mk hy115
                            clear hy115
                            by_cases c31 : t113 = (a0.size : Int)
                            · rw [if_pos c31] at H
                              have c31b0 : (t113 == (a0.size : Int)) = true := beq_iff_eq.mpr c31
                              have c31b1 : (t113 != (a0.size : Int)) = false := bne_eq_false_iff_eq.mpr c31
                              clear c31
                              simp only [Option.some.injEq, Prod.mk.injEq] at H
                              obtain ⟨rfl, rfl⟩ := H
                              go_wp2_with (first | ((with_reducible refine gate_callee (f := 123) rfl ?_); refine goesL_ (some 60) rfl rfl Tryd.func123 (by kernel_rfl) rfl #[.string a0, .int .i64 x6_2] rfl (by (try simp only [List.map_toArray, List.map_cons, List.map_nil]); first | done | rfl | (simp only [List.length_drop, List.length_take]; rfl)) ?_; (with_reducible refine (bitset_digits.calls kj19 a0 x6_2 t110 t111 t112 t113 true _ A28.out).mono ?_); rintro e w32 ⟨rfl, hb⟩; refine ⟨_, rfl, ?_⟩; have n0_ := Aside0.mk (Kd.R_below (by (with_reducible repeat (first | apply Kd.R_alloc | apply Kd.R_drewN | apply Kd.R_drew)); exact HO_4.out) hb); have n1_ := Aside0.mk (blk_below (g := gb106) (o := .cells #[.int .i64 x107000_2, .int .i64 x107001_2, .bool x107002_2] 127 (0, 0)) (by (with_reducible repeat (first | refine blk_drewN ?_ _ | refine blk_drew ?_ | refine blk_alloc ?_ _)); exact BK106.out) hb); have n2_ := Aside0.mk (below_step (by repeat (first | (with_reducible first | exact HB.out | apply below_alloc | apply pw_below_drewN | apply below_drew1 | refine below_set ?_ GE106.out) | exact HB.out)) hb); clear HO_4; clear BK106; clear HB; have HO_4 := n0_; have BK106 := n1_; have HB := n2_; clear n0_ n1_ n2_; (try clear hb); (try clear hb2); (try clear hk); (try clear hi); have hcz33_0 : w32.cell? ⟨gb106, 0, none⟩ = some (.int .i64 x107000_2) := (blk_cell BK106.out 0).trans rfl; have hcz33_1 : w32.cell? ⟨gb106, 1, none⟩ = some (.int .i64 x107001_2) := (blk_cell BK106.out 1).trans rfl; have hcz33_2 : w32.cell? ⟨gb106, 2, none⟩ = some (.bool x107002_2) := (blk_cell BK106.out 2).trans rfl; have hcc33 : ((((w32.setCell ⟨gb106, 0, none⟩ (.int .i64 t110)).setCell ⟨gb106, 1, none⟩ (.int .i64 t111)).setCell ⟨gb106, 2, none⟩ (.bool t112)).setCell ⟨gb106, 2, none⟩ (.bool x8_19)).cell? ⟨gb106, 2, none⟩ = some (.bool x8_19) := (blk_cell (blk_put (blk_put (blk_put (blk_put BK106.out 0 (.int .i64 t110) rfl) 1 (.int .i64 t111) rfl) 2 (.bool t112) rfl) 2 (.bool x8_19) rfl) 2).trans rfl; have hfz33_0 := blk_frozen BK106.out 0; have hfz33_1 := blk_frozen BK106.out 1; have hfz33_2 := blk_frozen BK106.out 2) | ((with_reducible refine gate_builtin (b := .append) (xs := #[.tmp 69, .tmp 71]) rfl ?_); (try (refine gate_guard (by rfl) ?_; dsimp only)); at_builtin; refine Kd.R_append k127 (w0 := w) w.heap.size rfl (.tmp 69) (.tmp 71) 123 127 (.agg #[(.int .i64 0), (.int .i64 0), (.bool false)]) 24 rfl Tryd.underlying123 info127 rfl (by decide) (by omega) u4 x4_2 (⟨t110, t111, x8_19⟩ : S127) [.int .i64 t110, .int .i64 t111, .bool x8_19] (fun k_ => k_ ≠ gb106) (fun _ => False) rfl (by first | (go_simp; done) | (go_simp; rfl)) ?aP (fun _ hk => hk.elim) ?aF ?aO ?aB ?aS ?aL ?_; (case aP => exact k127_mkM _ _ _ (⟨t110, t111, x8_19⟩ : S127)); (case aB => exact (by repeat (first | (with_reducible first | exact HB.out | apply below_alloc | apply pw_below_drewN | apply below_drew1 | refine below_set ?_ GE106.out) | exact HB.out))); (case aF => exact (fun k_ hk => Kd.freshB (g := gb106) (o := .cells #[.int .i64 t110, .int .i64 t111, .bool x8_19] 127 (0, 0)) (by (with_reducible repeat (first | refine blk_drewN ?_ _ | refine blk_drew ?_ | refine blk_alloc ?_ _)); refine blk_put (cs := #[.int .i64 t110, .int .i64 t111, .bool t112]) ?_ 2 _ rfl; (with_reducible repeat (first | refine blk_drewN ?_ _ | refine blk_drew ?_ | refine blk_alloc ?_ _)); refine blk_put (cs := #[.int .i64 t110, .int .i64 t111, .bool x107002_2]) ?_ 2 _ rfl; (with_reducible repeat (first | refine blk_drewN ?_ _ | refine blk_drew ?_ | refine blk_alloc ?_ _)); refine blk_put (cs := #[.int .i64 t110, .int .i64 x107001_2, .bool x107002_2]) ?_ 1 _ rfl; (with_reducible repeat (first | refine blk_drewN ?_ _ | refine blk_drew ?_ | refine blk_alloc ?_ _)); refine blk_put (cs := #[.int .i64 x107000_2, .int .i64 x107001_2, .bool x107002_2]) ?_ 0 _ rfl; (with_reducible repeat (first | refine blk_drewN ?_ _ | refine blk_drew ?_ | refine blk_alloc ?_ _)); exact BK106.out) k_ hk)); (case aO => exact (by (with_reducible repeat (first | apply Kd.R_alloc | apply Kd.R_drewN | apply Kd.R_drew)); exact Kd.R_mono (Kd.R_far (p := ⟨gb106, 2, none⟩) (Kd.R_far (p := ⟨gb106, 2, none⟩) (Kd.R_far (p := ⟨gb106, 1, none⟩) (Kd.R_far (p := ⟨gb106, 0, none⟩) (Kd.R_mono HO_4.out (fun k_ hk => (⟨hk, hk⟩ : _ ∧ k_ ≠ gb106))) (fun _ hk => hk.2) (.int .i64 t110)) (fun _ hk => hk.2) (.int .i64 t111)) (fun _ hk => hk.2) (.bool t112)) (fun _ hk => hk.2) (.bool x8_19)) (fun _ hk => hk.1))); (case aS => exact (below_size (by repeat (first | (with_reducible first | exact HB.out | apply below_alloc | apply pw_below_drewN | apply below_drew1 | refine below_set ?_ GE106.out) | exact HB.out)))); (case aL => have := LMc30.out; omega); intro v116 w34 ho hb hg hat; rw [← Ny115.out] at ho; have n0_ := Aside0.mk (blk_grown (g := gb106) (o := .cells #[.int .i64 t110, .int .i64 t111, .bool x8_19] 127 (0, 0)) (by (with_reducible repeat (first | refine blk_drewN ?_ _ | refine blk_drew ?_ | refine blk_alloc ?_ _)); refine blk_put (cs := #[.int .i64 t110, .int .i64 t111, .bool t112]) ?_ 2 _ rfl; (with_reducible repeat (first | refine blk_drewN ?_ _ | refine blk_drew ?_ | refine blk_alloc ?_ _)); refine blk_put (cs := #[.int .i64 t110, .int .i64 t111, .bool x107002_2]) ?_ 2 _ rfl; (with_reducible repeat (first | refine blk_drewN ?_ _ | refine blk_drew ?_ | refine blk_alloc ?_ _)); refine blk_put (cs := #[.int .i64 t110, .int .i64 x107001_2, .bool x107002_2]) ?_ 1 _ rfl; (with_reducible repeat (first | refine blk_drewN ?_ _ | refine blk_drew ?_ | refine blk_alloc ?_ _)); refine blk_put (cs := #[.int .i64 x107000_2, .int .i64 x107001_2, .bool x107002_2]) ?_ 0 _ rfl; (with_reducible repeat (first | refine blk_drewN ?_ _ | refine blk_drew ?_ | refine blk_alloc ?_ _)); exact BK106.out) hg (Kd.R_away HO_4.out (fun _ hk => hk))); have n1_ := Aside0.mk (hb); have n2_ := Aside0.mk (ho); clear BK106; clear HB; clear HO_4; have BK106 := n0_; have HB := n1_; have HO117 := n2_; clear n0_ n1_ n2_; clear ho hb hg hat))
                              go_ret2
                              exact ⟨_, by first | rfl | (simp [errW_none, errW_some] <;> rfl) | (simp [*, errW_none, errW_some] <;> rfl), by (with_reducible repeat (first | apply Kd.R_alloc | apply Kd.R_drewN | apply Kd.R_drew)); exact Kd.R_mono HO117.out (fun _ hk => trivial), by repeat (first | (with_reducible first | exact HB.out | apply below_alloc | apply pw_below_drewN | apply below_drew1 | refine below_set ?_ GE106.out) | exact HB.out)⟩
                            · rw [if_neg c31] at H
                              have c31b0 : (t113 == (a0.size : Int)) = false := beq_eq_false_iff_ne.mpr c31
                              have c31b1 : (t113 != (a0.size : Int)) = true := bne_iff_ne.mpr c31
                              by_cases c35 : 0 ≤ t113
                              · rw [if_pos c35] at H
                                have c35b0 : decide (0 ≤ t113) = true := decide_eq_true c35
                                clear c35
                                by_cases c36 : t113 < (a0.size : Int)
                                · rw [if_pos c36] at H
                                  have c36b0 : decide (t113 < (a0.size : Int)) = true := decide_eq_true c36
                                  clear c36
                                  by_cases c38 : (bt a0 t113) = 44
                                  · rw [if_pos c38] at H
                                    have c38b0 : ((bt a0 t113) == 44) = true := beq_iff_eq.mpr c38
                                    have c38b1 : ((bt a0 t113) != 44) = false := bne_eq_false_iff_eq.mpr c38
                                    clear c38
                                    have H' := Aside0.mk H
                                    clear H
                                    go_wp2_with (first | ((with_reducible refine gate_callee (f := 123) rfl ?_); refine goesL_ (some 60) rfl rfl Tryd.func123 (by kernel_rfl) rfl #[.string a0, .int .i64 x6_2] rfl (by (try simp only [List.map_toArray, List.map_cons, List.map_nil]); first | done | rfl | (simp only [List.length_drop, List.length_take]; rfl)) ?_; (with_reducible refine (bitset_digits.calls kj19 a0 x6_2 t110 t111 t112 t113 true _ A28.out).mono ?_); rintro e w39 ⟨rfl, hb⟩; refine ⟨_, rfl, ?_⟩; have n0_ := Aside0.mk (Kd.R_below (by (with_reducible repeat (first | apply Kd.R_alloc | apply Kd.R_drewN | apply Kd.R_drew)); exact HO_4.out) hb); have n1_ := Aside0.mk (blk_below (g := gb106) (o := .cells #[.int .i64 x107000_2, .int .i64 x107001_2, .bool x107002_2] 127 (0, 0)) (by (with_reducible repeat (first | refine blk_drewN ?_ _ | refine blk_drew ?_ | refine blk_alloc ?_ _)); exact BK106.out) hb); have n2_ := Aside0.mk (below_step (by repeat (first | (with_reducible first | exact HB.out | apply below_alloc | apply pw_below_drewN | apply below_drew1 | refine below_set ?_ GE106.out) | exact HB.out)) hb); clear HO_4; clear BK106; clear HB; have HO_4 := n0_; have BK106 := n1_; have HB := n2_; clear n0_ n1_ n2_; (try clear hb); (try clear hb2); (try clear hk); (try clear hi); have hcz40_0 : w39.cell? ⟨gb106, 0, none⟩ = some (.int .i64 x107000_2) := (blk_cell BK106.out 0).trans rfl; have hcz40_1 : w39.cell? ⟨gb106, 1, none⟩ = some (.int .i64 x107001_2) := (blk_cell BK106.out 1).trans rfl; have hcz40_2 : w39.cell? ⟨gb106, 2, none⟩ = some (.bool x107002_2) := (blk_cell BK106.out 2).trans rfl; have hcc40 : ((((w39.setCell ⟨gb106, 0, none⟩ (.int .i64 t110)).setCell ⟨gb106, 1, none⟩ (.int .i64 t111)).setCell ⟨gb106, 2, none⟩ (.bool t112)).setCell ⟨gb106, 2, none⟩ (.bool x8_19)).cell? ⟨gb106, 2, none⟩ = some (.bool x8_19) := (blk_cell (blk_put (blk_put (blk_put (blk_put BK106.out 0 (.int .i64 t110) rfl) 1 (.int .i64 t111) rfl) 2 (.bool t112) rfl) 2 (.bool x8_19) rfl) 2).trans rfl; have hfz40_0 := blk_frozen BK106.out 0; have hfz40_1 := blk_frozen BK106.out 1; have hfz40_2 := blk_frozen BK106.out 2) | ((with_reducible refine gate_builtin (b := .append) (xs := #[.tmp 69, .tmp 71]) rfl ?_); (try (refine gate_guard (by rfl) ?_; dsimp only)); at_builtin; refine Kd.R_append k127 (w0 := w) w.heap.size rfl (.tmp 69) (.tmp 71) 123 127 (.agg #[(.int .i64 0), (.int .i64 0), (.bool false)]) 24 rfl Tryd.underlying123 info127 rfl (by decide) (by omega) u4 x4_2 (⟨t110, t111, x8_19⟩ : S127) [.int .i64 t110, .int .i64 t111, .bool x8_19] (fun k_ => k_ ≠ gb106) (fun _ => False) rfl (by first | (go_simp; done) | (go_simp; rfl)) ?aP (fun _ hk => hk.elim) ?aF ?aO ?aB ?aS ?aL ?_; (case aP => exact k127_mkM _ _ _ (⟨t110, t111, x8_19⟩ : S127)); (case aB => exact (by repeat (first | (with_reducible first | exact HB.out | apply below_alloc | apply pw_below_drewN | apply below_drew1 | refine below_set ?_ GE106.out) | exact HB.out))); (case aF => exact (fun k_ hk => Kd.freshB (g := gb106) (o := .cells #[.int .i64 t110, .int .i64 t111, .bool x8_19] 127 (0, 0)) (by (with_reducible repeat (first | refine blk_drewN ?_ _ | refine blk_drew ?_ | refine blk_alloc ?_ _)); refine blk_put (cs := #[.int .i64 t110, .int .i64 t111, .bool t112]) ?_ 2 _ rfl; (with_reducible repeat (first | refine blk_drewN ?_ _ | refine blk_drew ?_ | refine blk_alloc ?_ _)); refine blk_put (cs := #[.int .i64 t110, .int .i64 t111, .bool x107002_2]) ?_ 2 _ rfl; (with_reducible repeat (first | refine blk_drewN ?_ _ | refine blk_drew ?_ | refine blk_alloc ?_ _)); refine blk_put (cs := #[.int .i64 t110, .int .i64 x107001_2, .bool x107002_2]) ?_ 1 _ rfl; (with_reducible repeat (first | refine blk_drewN ?_ _ | refine blk_drew ?_ | refine blk_alloc ?_ _)); refine blk_put (cs := #[.int .i64 x107000_2, .int .i64 x107001_2, .bool x107002_2]) ?_ 0 _ rfl; (with_reducible repeat (first | refine blk_drewN ?_ _ | refine blk_drew ?_ | refine blk_alloc ?_ _)); exact BK106.out) k_ hk)); (case aO => exact (by (with_reducible repeat (first | apply Kd.R_alloc | apply Kd.R_drewN | apply Kd.R_drew)); exact Kd.R_mono (Kd.R_far (p := ⟨gb106, 2, none⟩) (Kd.R_far (p := ⟨gb106, 2, none⟩) (Kd.R_far (p := ⟨gb106, 1, none⟩) (Kd.R_far (p := ⟨gb106, 0, none⟩) (Kd.R_mono HO_4.out (fun k_ hk => (⟨hk, hk⟩ : _ ∧ k_ ≠ gb106))) (fun _ hk => hk.2) (.int .i64 t110)) (fun _ hk => hk.2) (.int .i64 t111)) (fun _ hk => hk.2) (.bool t112)) (fun _ hk => hk.2) (.bool x8_19)) (fun _ hk => hk.1))); (case aS => exact (below_size (by repeat (first | (with_reducible first | exact HB.out | apply below_alloc | apply pw_below_drewN | apply below_drew1 | refine below_set ?_ GE106.out) | exact HB.out)))); (case aL => have := LMc30.out; omega); intro v116 w41 ho hb hg hat; rw [← Ny115.out] at ho; have n0_ := Aside0.mk (blk_grown (g := gb106) (o := .cells #[.int .i64 t110, .int .i64 t111, .bool x8_19] 127 (0, 0)) (by (with_reducible repeat (first | refine blk_drewN ?_ _ | refine blk_drew ?_ | refine blk_alloc ?_ _)); refine blk_put (cs := #[.int .i64 t110, .int .i64 t111, .bool t112]) ?_ 2 _ rfl; (with_reducible repeat (first | refine blk_drewN ?_ _ | refine blk_drew ?_ | refine blk_alloc ?_ _)); refine blk_put (cs := #[.int .i64 t110, .int .i64 t111, .bool x107002_2]) ?_ 2 _ rfl; (with_reducible repeat (first | refine blk_drewN ?_ _ | refine blk_drew ?_ | refine blk_alloc ?_ _)); refine blk_put (cs := #[.int .i64 t110, .int .i64 x107001_2, .bool x107002_2]) ?_ 1 _ rfl; (with_reducible repeat (first | refine blk_drewN ?_ _ | refine blk_drew ?_ | refine blk_alloc ?_ _)); refine blk_put (cs := #[.int .i64 x107000_2, .int .i64 x107001_2, .bool x107002_2]) ?_ 0 _ rfl; (with_reducible repeat (first | refine blk_drewN ?_ _ | refine blk_drew ?_ | refine blk_alloc ?_ _)); exact BK106.out) hg (Kd.R_away HO_4.out (fun _ hk => hk))); have n1_ := Aside0.mk (hb); have n2_ := Aside0.mk (ho); clear BK106; clear HB; clear HO_4; have BK106 := n0_; have HB := n1_; have HO117 := n2_; clear n0_ n1_ n2_; clear ho hb hg hat; have p37 : 0 ≤ (t113 : Int) := of_decide_eq_true (by first | (with_reducible assumption) | assumption); have q37 : t113 < (a0.size : Int) := of_decide_eq_true (by first | (with_reducible assumption) | assumption); have hx37 := bt_at a0 t113; replace p37 := eq_true p37; replace q37 := eq_true q37))
                                    go_roundg kj19
                                    case measure => have := HJ2.out; have := HK2.out; have := HJ15.out; have := HJ19.out; omega
                                    case rel => exact ⟨(y115), (wrap64 (t113 + 1)), (t110), (t111), (x8_19), (by first | rfl | (simp; done) | (simp [*]; done)), H', ⟨by have := HJ2.out; have := HK2.out; have := HJ15.out; have := HJ19.out; omega⟩, ⟨by (with_reducible repeat (first | apply Kd.R_alloc | apply Kd.R_drewN | apply Kd.R_drew)); exact HO117.out⟩, ⟨by (with_reducible repeat (first | refine blk_drewN ?_ _ | refine blk_drew ?_ | refine blk_alloc ?_ _)); exact BK106.out⟩, ⟨by repeat (first | (with_reducible first | exact HB.out | apply below_alloc | apply pw_below_drewN | apply below_drew1 | refine below_set ?_ GE106.out) | exact HB.out)⟩⟩
                                  · rw [if_neg c38] at H
                                    have c38b0 : ((bt a0 t113) == 44) = false := beq_eq_false_iff_ne.mpr c38
                                    have c38b1 : ((bt a0 t113) != 44) = true := bne_iff_ne.mpr c38
                                    by_cases c43 : (bt a0 t113) = 45
                                    · rw [if_pos c43] at H
                                      have c43b0 : ((bt a0 t113) == 45) = true := beq_iff_eq.mpr c43
                                      have c43b1 : ((bt a0 t113) != 45) = false := bne_eq_false_iff_eq.mpr c43
                                      clear c43
                                      by_cases c44 : x8_19 = true
                                      · subst c44
                                        have H1 : (some (([] : List (S127)), t113)) = some (r1, r2) := by rw [if_pos rfl] at H; exact H
                                        clear H
                                        have H := H1
                                        clear H1
                                        simp only [Option.some.injEq, Prod.mk.injEq] at H
                                        obtain ⟨rfl, rfl⟩ := H
                                        go_wp2_with (first | ((with_reducible refine gate_callee (f := 123) rfl ?_); refine goesL_ (some 60) rfl rfl Tryd.func123 (by kernel_rfl) rfl #[.string a0, .int .i64 x6_2] rfl (by (try simp only [List.map_toArray, List.map_cons, List.map_nil]); first | done | rfl | (simp only [List.length_drop, List.length_take]; rfl)) ?_; (with_reducible refine (bitset_digits.calls kj19 a0 x6_2 t110 t111 t112 t113 true _ A28.out).mono ?_); rintro e w45 ⟨rfl, hb⟩; refine ⟨_, rfl, ?_⟩; have n0_ := Aside0.mk (Kd.R_below (by (with_reducible repeat (first | apply Kd.R_alloc | apply Kd.R_drewN | apply Kd.R_drew)); exact HO_4.out) hb); have n1_ := Aside0.mk (blk_below (g := gb106) (o := .cells #[.int .i64 x107000_2, .int .i64 x107001_2, .bool x107002_2] 127 (0, 0)) (by (with_reducible repeat (first | refine blk_drewN ?_ _ | refine blk_drew ?_ | refine blk_alloc ?_ _)); exact BK106.out) hb); have n2_ := Aside0.mk (below_step (by repeat (first | (with_reducible first | exact HB.out | apply below_alloc | apply pw_below_drewN | apply below_drew1 | refine below_set ?_ GE106.out) | exact HB.out)) hb); clear HO_4; clear BK106; clear HB; have HO_4 := n0_; have BK106 := n1_; have HB := n2_; clear n0_ n1_ n2_; (try clear hb); (try clear hb2); (try clear hk); (try clear hi); have hcz46_0 : w45.cell? ⟨gb106, 0, none⟩ = some (.int .i64 x107000_2) := (blk_cell BK106.out 0).trans rfl; have hcz46_1 : w45.cell? ⟨gb106, 1, none⟩ = some (.int .i64 x107001_2) := (blk_cell BK106.out 1).trans rfl; have hcz46_2 : w45.cell? ⟨gb106, 2, none⟩ = some (.bool x107002_2) := (blk_cell BK106.out 2).trans rfl; have hcc46 : ((((w45.setCell ⟨gb106, 0, none⟩ (.int .i64 t110)).setCell ⟨gb106, 1, none⟩ (.int .i64 t111)).setCell ⟨gb106, 2, none⟩ (.bool t112)).setCell ⟨gb106, 2, none⟩ (.bool true)).cell? ⟨gb106, 2, none⟩ = some (.bool true) := (blk_cell (blk_put (blk_put (blk_put (blk_put BK106.out 0 (.int .i64 t110) rfl) 1 (.int .i64 t111) rfl) 2 (.bool t112) rfl) 2 (.bool true) rfl) 2).trans rfl; have hfz46_0 := blk_frozen BK106.out 0; have hfz46_1 := blk_frozen BK106.out 1; have hfz46_2 := blk_frozen BK106.out 2) | ((with_reducible refine gate_builtin (b := .append) (xs := #[.tmp 69, .tmp 71]) rfl ?_); (try (refine gate_guard (by rfl) ?_; dsimp only)); at_builtin; refine Kd.R_append k127 (w0 := w) w.heap.size rfl (.tmp 69) (.tmp 71) 123 127 (.agg #[(.int .i64 0), (.int .i64 0), (.bool false)]) 24 rfl Tryd.underlying123 info127 rfl (by decide) (by omega) u4 x4_2 (⟨t110, t111, true⟩ : S127) [.int .i64 t110, .int .i64 t111, .bool true] (fun k_ => k_ ≠ gb106) (fun _ => False) rfl (by first | (go_simp; done) | (go_simp; rfl)) ?aP (fun _ hk => hk.elim) ?aF ?aO ?aB ?aS ?aL ?_; (case aP => exact k127_mkM _ _ _ (⟨t110, t111, true⟩ : S127)); (case aB => exact (by repeat (first | (with_reducible first | exact HB.out | apply below_alloc | apply pw_below_drewN | apply below_drew1 | refine below_set ?_ GE106.out) | exact HB.out))); (case aF => exact (fun k_ hk => Kd.freshB (g := gb106) (o := .cells #[.int .i64 t110, .int .i64 t111, .bool true] 127 (0, 0)) (by (with_reducible repeat (first | refine blk_drewN ?_ _ | refine blk_drew ?_ | refine blk_alloc ?_ _)); refine blk_put (cs := #[.int .i64 t110, .int .i64 t111, .bool t112]) ?_ 2 _ rfl; (with_reducible repeat (first | refine blk_drewN ?_ _ | refine blk_drew ?_ | refine blk_alloc ?_ _)); refine blk_put (cs := #[.int .i64 t110, .int .i64 t111, .bool x107002_2]) ?_ 2 _ rfl; (with_reducible repeat (first | refine blk_drewN ?_ _ | refine blk_drew ?_ | refine blk_alloc ?_ _)); refine blk_put (cs := #[.int .i64 t110, .int .i64 x107001_2, .bool x107002_2]) ?_ 1 _ rfl; (with_reducible repeat (first | refine blk_drewN ?_ _ | refine blk_drew ?_ | refine blk_alloc ?_ _)); refine blk_put (cs := #[.int .i64 x107000_2, .int .i64 x107001_2, .bool x107002_2]) ?_ 0 _ rfl; (with_reducible repeat (first | refine blk_drewN ?_ _ | refine blk_drew ?_ | refine blk_alloc ?_ _)); exact BK106.out) k_ hk)); (case aO => exact (by (with_reducible repeat (first | apply Kd.R_alloc | apply Kd.R_drewN | apply Kd.R_drew)); exact Kd.R_mono (Kd.R_far (p := ⟨gb106, 2, none⟩) (Kd.R_far (p := ⟨gb106, 2, none⟩) (Kd.R_far (p := ⟨gb106, 1, none⟩) (Kd.R_far (p := ⟨gb106, 0, none⟩) (Kd.R_mono HO_4.out (fun k_ hk => (⟨hk, hk⟩ : _ ∧ k_ ≠ gb106))) (fun _ hk => hk.2) (.int .i64 t110)) (fun _ hk => hk.2) (.int .i64 t111)) (fun _ hk => hk.2) (.bool t112)) (fun _ hk => hk.2) (.bool true)) (fun _ hk => hk.1))); (case aS => exact (below_size (by repeat (first | (with_reducible first | exact HB.out | apply below_alloc | apply pw_below_drewN | apply below_drew1 | refine below_set ?_ GE106.out) | exact HB.out)))); (case aL => have := LMc30.out; omega); intro v116 w47 ho hb hg hat; rw [← Ny115.out] at ho; have n0_ := Aside0.mk (blk_grown (g := gb106) (o := .cells #[.int .i64 t110, .int .i64 t111, .bool true] 127 (0, 0)) (by (with_reducible repeat (first | refine blk_drewN ?_ _ | refine blk_drew ?_ | refine blk_alloc ?_ _)); refine blk_put (cs := #[.int .i64 t110, .int .i64 t111, .bool t112]) ?_ 2 _ rfl; (with_reducible repeat (first | refine blk_drewN ?_ _ | refine blk_drew ?_ | refine blk_alloc ?_ _)); refine blk_put (cs := #[.int .i64 t110, .int .i64 t111, .bool x107002_2]) ?_ 2 _ rfl; (with_reducible repeat (first | refine blk_drewN ?_ _ | refine blk_drew ?_ | refine blk_alloc ?_ _)); refine blk_put (cs := #[.int .i64 t110, .int .i64 x107001_2, .bool x107002_2]) ?_ 1 _ rfl; (with_reducible repeat (first | refine blk_drewN ?_ _ | refine blk_drew ?_ | refine blk_alloc ?_ _)); refine blk_put (cs := #[.int .i64 x107000_2, .int .i64 x107001_2, .bool x107002_2]) ?_ 0 _ rfl; (with_reducible repeat (first | refine blk_drewN ?_ _ | refine blk_drew ?_ | refine blk_alloc ?_ _)); exact BK106.out) hg (Kd.R_away HO_4.out (fun _ hk => hk))); have n1_ := Aside0.mk (hb); have n2_ := Aside0.mk (ho); clear BK106; clear HB; clear HO_4; have BK106 := n0_; have HB := n1_; have HO117 := n2_; clear n0_ n1_ n2_; clear ho hb hg hat; have p37 : 0 ≤ (t113 : Int) := of_decide_eq_true (by first | (with_reducible assumption) | assumption); have q37 : t113 < (a0.size : Int) := of_decide_eq_true (by first | (with_reducible assumption) | assumption); have hx37 := bt_at a0 t113; replace p37 := eq_true p37; replace q37 := eq_true q37; have p42 : 0 ≤ (t113 : Int) := of_decide_eq_true (by first | (with_reducible assumption) | assumption); have q42 : t113 < (a0.size : Int) := of_decide_eq_true (by first | (with_reducible assumption) | assumption); have hx42 := bt_at a0 t113; replace p42 := eq_true p42; replace q42 := eq_true q42))
                                        go_ret2
                                        exact ⟨_, by first | rfl | (simp [errW_none, errW_some] <;> rfl) | (simp [*, errW_none, errW_some] <;> rfl), by first | exact Kd.R_nil _ _ _ _ _ | exact Kd.N_nil _ _ _ _ _ | exact Kd.V_nil _ _ _ _ _ | exact Kd.Q_nil _ _ _ _ _ | exact Kd.S_nil _ _ _ _ _, by repeat (first | (with_reducible first | exact HB.out | apply below_alloc | apply pw_below_drewN | apply below_drew1 | refine below_set ?_ GE106.out) | exact HB.out)⟩
                                      · replace c44 := Bool.eq_false_iff.mpr c44
                                        subst c44
                                        have H1 : (bitset_numbers.l0 kj19 a0 y115 (wrap64 (t113 + 1))) = some (r1, r2) := by rw [if_neg (show ¬ (false = true) by decide)] at H; exact H
                                        clear H
                                        have H := H1
                                        clear H1
                                        have H' := Aside0.mk H
                                        clear H
                                        go_wp2_with (first | ((with_reducible refine gate_callee (f := 123) rfl ?_); refine goesL_ (some 60) rfl rfl Tryd.func123 (by kernel_rfl) rfl #[.string a0, .int .i64 x6_2] rfl (by (try simp only [List.map_toArray, List.map_cons, List.map_nil]); first | done | rfl | (simp only [List.length_drop, List.length_take]; rfl)) ?_; (with_reducible refine (bitset_digits.calls kj19 a0 x6_2 t110 t111 t112 t113 true _ A28.out).mono ?_); rintro e w48 ⟨rfl, hb⟩; refine ⟨_, rfl, ?_⟩; have n0_ := Aside0.mk (Kd.R_below (by (with_reducible repeat (first | apply Kd.R_alloc | apply Kd.R_drewN | apply Kd.R_drew)); exact HO_4.out) hb); have n1_ := Aside0.mk (blk_below (g := gb106) (o := .cells #[.int .i64 x107000_2, .int .i64 x107001_2, .bool x107002_2] 127 (0, 0)) (by (with_reducible repeat (first | refine blk_drewN ?_ _ | refine blk_drew ?_ | refine blk_alloc ?_ _)); exact BK106.out) hb); have n2_ := Aside0.mk (below_step (by repeat (first | (with_reducible first | exact HB.out | apply below_alloc | apply pw_below_drewN | apply below_drew1 | refine below_set ?_ GE106.out) | exact HB.out)) hb); clear HO_4; clear BK106; clear HB; have HO_4 := n0_; have BK106 := n1_; have HB := n2_; clear n0_ n1_ n2_; (try clear hb); (try clear hb2); (try clear hk); (try clear hi); have hcz49_0 : w48.cell? ⟨gb106, 0, none⟩ = some (.int .i64 x107000_2) := (blk_cell BK106.out 0).trans rfl; have hcz49_1 : w48.cell? ⟨gb106, 1, none⟩ = some (.int .i64 x107001_2) := (blk_cell BK106.out 1).trans rfl; have hcz49_2 : w48.cell? ⟨gb106, 2, none⟩ = some (.bool x107002_2) := (blk_cell BK106.out 2).trans rfl; have hcc49 : ((((w48.setCell ⟨gb106, 0, none⟩ (.int .i64 t110)).setCell ⟨gb106, 1, none⟩ (.int .i64 t111)).setCell ⟨gb106, 2, none⟩ (.bool t112)).setCell ⟨gb106, 2, none⟩ (.bool false)).cell? ⟨gb106, 2, none⟩ = some (.bool false) := (blk_cell (blk_put (blk_put (blk_put (blk_put BK106.out 0 (.int .i64 t110) rfl) 1 (.int .i64 t111) rfl) 2 (.bool t112) rfl) 2 (.bool false) rfl) 2).trans rfl; have hfz49_0 := blk_frozen BK106.out 0; have hfz49_1 := blk_frozen BK106.out 1; have hfz49_2 := blk_frozen BK106.out 2) | ((with_reducible refine gate_builtin (b := .append) (xs := #[.tmp 69, .tmp 71]) rfl ?_); (try (refine gate_guard (by rfl) ?_; dsimp only)); at_builtin; refine Kd.R_append k127 (w0 := w) w.heap.size rfl (.tmp 69) (.tmp 71) 123 127 (.agg #[(.int .i64 0), (.int .i64 0), (.bool false)]) 24 rfl Tryd.underlying123 info127 rfl (by decide) (by omega) u4 x4_2 (⟨t110, t111, false⟩ : S127) [.int .i64 t110, .int .i64 t111, .bool false] (fun k_ => k_ ≠ gb106) (fun _ => False) rfl (by first | (go_simp; done) | (go_simp; rfl)) ?aP (fun _ hk => hk.elim) ?aF ?aO ?aB ?aS ?aL ?_; (case aP => exact k127_mkM _ _ _ (⟨t110, t111, false⟩ : S127)); (case aB => exact (by repeat (first | (with_reducible first | exact HB.out | apply below_alloc | apply pw_below_drewN | apply below_drew1 | refine below_set ?_ GE106.out) | exact HB.out))); (case aF => exact (fun k_ hk => Kd.freshB (g := gb106) (o := .cells #[.int .i64 t110, .int .i64 t111, .bool false] 127 (0, 0)) (by (with_reducible repeat (first | refine blk_drewN ?_ _ | refine blk_drew ?_ | refine blk_alloc ?_ _)); refine blk_put (cs := #[.int .i64 t110, .int .i64 t111, .bool t112]) ?_ 2 _ rfl; (with_reducible repeat (first | refine blk_drewN ?_ _ | refine blk_drew ?_ | refine blk_alloc ?_ _)); refine blk_put (cs := #[.int .i64 t110, .int .i64 t111, .bool x107002_2]) ?_ 2 _ rfl; (with_reducible repeat (first | refine blk_drewN ?_ _ | refine blk_drew ?_ | refine blk_alloc ?_ _)); refine blk_put (cs := #[.int .i64 t110, .int .i64 x107001_2, .bool x107002_2]) ?_ 1 _ rfl; (with_reducible repeat (first | refine blk_drewN ?_ _ | refine blk_drew ?_ | refine blk_alloc ?_ _)); refine blk_put (cs := #[.int .i64 x107000_2, .int .i64 x107001_2, .bool x107002_2]) ?_ 0 _ rfl; (with_reducible repeat (first | refine blk_drewN ?_ _ | refine blk_drew ?_ | refine blk_alloc ?_ _)); exact BK106.out) k_ hk)); (case aO => exact (by (with_reducible repeat (first | apply Kd.R_alloc | apply Kd.R_drewN | apply Kd.R_drew)); exact Kd.R_mono (Kd.R_far (p := ⟨gb106, 2, none⟩) (Kd.R_far (p := ⟨gb106, 2, none⟩) (Kd.R_far (p := ⟨gb106, 1, none⟩) (Kd.R_far (p := ⟨gb106, 0, none⟩) (Kd.R_mono HO_4.out (fun k_ hk => (⟨hk, hk⟩ : _ ∧ k_ ≠ gb106))) (fun _ hk => hk.2) (.int .i64 t110)) (fun _ hk => hk.2) (.int .i64 t111)) (fun _ hk => hk.2) (.bool t112)) (fun _ hk => hk.2) (.bool false)) (fun _ hk => hk.1))); (case aS => exact (below_size (by repeat (first | (with_reducible first | exact HB.out | apply below_alloc | apply pw_below_drewN | apply below_drew1 | refine below_set ?_ GE106.out) | exact HB.out)))); (case aL => have := LMc30.out; omega); intro v116 w50 ho hb hg hat; rw [← Ny115.out] at ho; have n0_ := Aside0.mk (blk_grown (g := gb106) (o := .cells #[.int .i64 t110, .int .i64 t111, .bool false] 127 (0, 0)) (by (with_reducible repeat (first | refine blk_drewN ?_ _ | refine blk_drew ?_ | refine blk_alloc ?_ _)); refine blk_put (cs := #[.int .i64 t110, .int .i64 t111, .bool t112]) ?_ 2 _ rfl; (with_reducible repeat (first | refine blk_drewN ?_ _ | refine blk_drew ?_ | refine blk_alloc ?_ _)); refine blk_put (cs := #[.int .i64 t110, .int .i64 t111, .bool x107002_2]) ?_ 2 _ rfl; (with_reducible repeat (first | refine blk_drewN ?_ _ | refine blk_drew ?_ | refine blk_alloc ?_ _)); refine blk_put (cs := #[.int .i64 t110, .int .i64 x107001_2, .bool x107002_2]) ?_ 1 _ rfl; (with_reducible repeat (first | refine blk_drewN ?_ _ | refine blk_drew ?_ | refine blk_alloc ?_ _)); refine blk_put (cs := #[.int .i64 x107000_2, .int .i64 x107001_2, .bool x107002_2]) ?_ 0 _ rfl; (with_reducible repeat (first | refine blk_drewN ?_ _ | refine blk_drew ?_ | refine blk_alloc ?_ _)); exact BK106.out) hg (Kd.R_away HO_4.out (fun _ hk => hk))); have n1_ := Aside0.mk (hb); have n2_ := Aside0.mk (ho); clear BK106; clear HB; clear HO_4; have BK106 := n0_; have HB := n1_; have HO117 := n2_; clear n0_ n1_ n2_; clear ho hb hg hat; have p37 : 0 ≤ (t113 : Int) := of_decide_eq_true (by first | (with_reducible assumption) | assumption); have q37 : t113 < (a0.size : Int) := of_decide_eq_true (by first | (with_reducible assumption) | assumption); have hx37 := bt_at a0 t113; replace p37 := eq_true p37; replace q37 := eq_true q37; have p42 : 0 ≤ (t113 : Int) := of_decide_eq_true (by first | (with_reducible assumption) | assumption); have q42 : t113 < (a0.size : Int) := of_decide_eq_true (by first | (with_reducible assumption) | assumption); have hx42 := bt_at a0 t113; replace p42 := eq_true p42; replace q42 := eq_true q42))
                                        go_roundg kj19
                                        case measure => have := HJ2.out; have := HK2.out; have := HJ15.out; have := HJ19.out; omega
                                        case rel => exact ⟨(y115), (wrap64 (t113 + 1)), (t110), (t111), (false), (by first | rfl | (simp; done) | (simp [*]; done)), H', ⟨by have := HJ2.out; have := HK2.out; have := HJ15.out; have := HJ19.out; omega⟩, ⟨by (with_reducible repeat (first | apply Kd.R_alloc | apply Kd.R_drewN | apply Kd.R_drew)); exact HO117.out⟩, ⟨by (with_reducible repeat (first | refine blk_drewN ?_ _ | refine blk_drew ?_ | refine blk_alloc ?_ _)); exact BK106.out⟩, ⟨by repeat (first | (with_reducible first | exact HB.out | apply below_alloc | apply pw_below_drewN | apply below_drew1 | refine below_set ?_ GE106.out) | exact HB.out)⟩⟩
                                    · rw [if_neg c43] at H
                                      have c43b0 : ((bt a0 t113) == 45) = false := beq_eq_false_iff_ne.mpr c43
                                      have c43b1 : ((bt a0 t113) != 45) = true := bne_iff_ne.mpr c43
                                      simp only [Option.some.injEq, Prod.mk.injEq] at H
                                      obtain ⟨rfl, rfl⟩ := H
                                      go_wp2_with (first | ((with_reducible refine gate_callee (f := 123) rfl ?_); refine goesL_ (some 60) rfl rfl Tryd.func123 (by kernel_rfl) rfl #[.string a0, .int .i64 x6_2] rfl (by (try simp only [List.map_toArray, List.map_cons, List.map_nil]); first | done | rfl | (simp only [List.length_drop, List.length_take]; rfl)) ?_; (with_reducible refine (bitset_digits.calls kj19 a0 x6_2 t110 t111 t112 t113 true _ A28.out).mono ?_); rintro e w51 ⟨rfl, hb⟩; refine ⟨_, rfl, ?_⟩; have n0_ := Aside0.mk (Kd.R_below (by (with_reducible repeat (first | apply Kd.R_alloc | apply Kd.R_drewN | apply Kd.R_drew)); exact HO_4.out) hb); have n1_ := Aside0.mk (blk_below (g := gb106) (o := .cells #[.int .i64 x107000_2, .int .i64 x107001_2, .bool x107002_2] 127 (0, 0)) (by (with_reducible repeat (first | refine blk_drewN ?_ _ | refine blk_drew ?_ | refine blk_alloc ?_ _)); exact BK106.out) hb); have n2_ := Aside0.mk (below_step (by repeat (first | (with_reducible first | exact HB.out | apply below_alloc | apply pw_below_drewN | apply below_drew1 | refine below_set ?_ GE106.out) | exact HB.out)) hb); clear HO_4; clear BK106; clear HB; have HO_4 := n0_; have BK106 := n1_; have HB := n2_; clear n0_ n1_ n2_; (try clear hb); (try clear hb2); (try clear hk); (try clear hi); have hcz52_0 : w51.cell? ⟨gb106, 0, none⟩ = some (.int .i64 x107000_2) := (blk_cell BK106.out 0).trans rfl; have hcz52_1 : w51.cell? ⟨gb106, 1, none⟩ = some (.int .i64 x107001_2) := (blk_cell BK106.out 1).trans rfl; have hcz52_2 : w51.cell? ⟨gb106, 2, none⟩ = some (.bool x107002_2) := (blk_cell BK106.out 2).trans rfl; have hcc52 : ((((w51.setCell ⟨gb106, 0, none⟩ (.int .i64 t110)).setCell ⟨gb106, 1, none⟩ (.int .i64 t111)).setCell ⟨gb106, 2, none⟩ (.bool t112)).setCell ⟨gb106, 2, none⟩ (.bool x8_19)).cell? ⟨gb106, 2, none⟩ = some (.bool x8_19) := (blk_cell (blk_put (blk_put (blk_put (blk_put BK106.out 0 (.int .i64 t110) rfl) 1 (.int .i64 t111) rfl) 2 (.bool t112) rfl) 2 (.bool x8_19) rfl) 2).trans rfl; have hfz52_0 := blk_frozen BK106.out 0; have hfz52_1 := blk_frozen BK106.out 1; have hfz52_2 := blk_frozen BK106.out 2) | ((with_reducible refine gate_builtin (b := .append) (xs := #[.tmp 69, .tmp 71]) rfl ?_); (try (refine gate_guard (by rfl) ?_; dsimp only)); at_builtin; refine Kd.R_append k127 (w0 := w) w.heap.size rfl (.tmp 69) (.tmp 71) 123 127 (.agg #[(.int .i64 0), (.int .i64 0), (.bool false)]) 24 rfl Tryd.underlying123 info127 rfl (by decide) (by omega) u4 x4_2 (⟨t110, t111, x8_19⟩ : S127) [.int .i64 t110, .int .i64 t111, .bool x8_19] (fun k_ => k_ ≠ gb106) (fun _ => False) rfl (by first | (go_simp; done) | (go_simp; rfl)) ?aP (fun _ hk => hk.elim) ?aF ?aO ?aB ?aS ?aL ?_; (case aP => exact k127_mkM _ _ _ (⟨t110, t111, x8_19⟩ : S127)); (case aB => exact (by repeat (first | (with_reducible first | exact HB.out | apply below_alloc | apply pw_below_drewN | apply below_drew1 | refine below_set ?_ GE106.out) | exact HB.out))); (case aF => exact (fun k_ hk => Kd.freshB (g := gb106) (o := .cells #[.int .i64 t110, .int .i64 t111, .bool x8_19] 127 (0, 0)) (by (with_reducible repeat (first | refine blk_drewN ?_ _ | refine blk_drew ?_ | refine blk_alloc ?_ _)); refine blk_put (cs := #[.int .i64 t110, .int .i64 t111, .bool t112]) ?_ 2 _ rfl; (with_reducible repeat (first | refine blk_drewN ?_ _ | refine blk_drew ?_ | refine blk_alloc ?_ _)); refine blk_put (cs := #[.int .i64 t110, .int .i64 t111, .bool x107002_2]) ?_ 2 _ rfl; (with_reducible repeat (first | refine blk_drewN ?_ _ | refine blk_drew ?_ | refine blk_alloc ?_ _)); refine blk_put (cs := #[.int .i64 t110, .int .i64 x107001_2, .bool x107002_2]) ?_ 1 _ rfl; (with_reducible repeat (first | refine blk_drewN ?_ _ | refine blk_drew ?_ | refine blk_alloc ?_ _)); refine blk_put (cs := #[.int .i64 x107000_2, .int .i64 x107001_2, .bool x107002_2]) ?_ 0 _ rfl; (with_reducible repeat (first | refine blk_drewN ?_ _ | refine blk_drew ?_ | refine blk_alloc ?_ _)); exact BK106.out) k_ hk)); (case aO => exact (by (with_reducible repeat (first | apply Kd.R_alloc | apply Kd.R_drewN | apply Kd.R_drew)); exact Kd.R_mono (Kd.R_far (p := ⟨gb106, 2, none⟩) (Kd.R_far (p := ⟨gb106, 2, none⟩) (Kd.R_far (p := ⟨gb106, 1, none⟩) (Kd.R_far (p := ⟨gb106, 0, none⟩) (Kd.R_mono HO_4.out (fun k_ hk => (⟨hk, hk⟩ : _ ∧ k_ ≠ gb106))) (fun _ hk => hk.2) (.int .i64 t110)) (fun _ hk => hk.2) (.int .i64 t111)) (fun _ hk => hk.2) (.bool t112)) (fun _ hk => hk.2) (.bool x8_19)) (fun _ hk => hk.1))); (case aS => exact (below_size (by repeat (first | (with_reducible first | exact HB.out | apply below_alloc | apply pw_below_drewN | apply below_drew1 | refine below_set ?_ GE106.out) | exact HB.out)))); (case aL => have := LMc30.out; omega); intro v116 w53 ho hb hg hat; rw [← Ny115.out] at ho; have n0_ := Aside0.mk (blk_grown (g := gb106) (o := .cells #[.int .i64 t110, .int .i64 t111, .bool x8_19] 127 (0, 0)) (by (with_reducible repeat (first | refine blk_drewN ?_ _ | refine blk_drew ?_ | refine blk_alloc ?_ _)); refine blk_put (cs := #[.int .i64 t110, .int .i64 t111, .bool t112]) ?_ 2 _ rfl; (with_reducible repeat (first | refine blk_drewN ?_ _ | refine blk_drew ?_ | refine blk_alloc ?_ _)); refine blk_put (cs := #[.int .i64 t110, .int .i64 t111, .bool x107002_2]) ?_ 2 _ rfl; (with_reducible repeat (first | refine blk_drewN ?_ _ | refine blk_drew ?_ | refine blk_alloc ?_ _)); refine blk_put (cs := #[.int .i64 t110, .int .i64 x107001_2, .bool x107002_2]) ?_ 1 _ rfl; (with_reducible repeat (first | refine blk_drewN ?_ _ | refine blk_drew ?_ | refine blk_alloc ?_ _)); refine blk_put (cs := #[.int .i64 x107000_2, .int .i64 x107001_2, .bool x107002_2]) ?_ 0 _ rfl; (with_reducible repeat (first | refine blk_drewN ?_ _ | refine blk_drew ?_ | refine blk_alloc ?_ _)); exact BK106.out) hg (Kd.R_away HO_4.out (fun _ hk => hk))); have n1_ := Aside0.mk (hb); have n2_ := Aside0.mk (ho); clear BK106; clear HB; clear HO_4; have BK106 := n0_; have HB := n1_; have HO117 := n2_; clear n0_ n1_ n2_; clear ho hb hg hat; have p37 : 0 ≤ (t113 : Int) := of_decide_eq_true (by first | (with_reducible assumption) | assumption); have q37 : t113 < (a0.size : Int) := of_decide_eq_true (by first | (with_reducible assumption) | assumption); have hx37 := bt_at a0 t113; replace p37 := eq_true p37; replace q37 := eq_true q37; have p42 : 0 ≤ (t113 : Int) := of_decide_eq_true (by first | (with_reducible assumption) | assumption); have q42 : t113 < (a0.size : Int) := of_decide_eq_true (by first | (with_reducible assumption) | assumption); have hx42 := bt_at a0 t113; replace p42 := eq_true p42; replace q42 := eq_true q42))
                                      go_ret2
                                      exact ⟨_, by first | rfl | (simp [errW_none, errW_some] <;> rfl) | (simp [*, errW_none, errW_some] <;> rfl), by first | exact Kd.R_nil _ _ _ _ _ | exact Kd.N_nil _ _ _ _ _ | exact Kd.V_nil _ _ _ _ _ | exact Kd.Q_nil _ _ _ _ _ | exact Kd.S_nil _ _ _ _ _, by repeat (first | (with_reducible first | exact HB.out | apply below_alloc | apply pw_below_drewN | apply below_drew1 | refine below_set ?_ GE106.out) | exact HB.out)⟩
                                · rw [if_neg c36] at H
                                  exact absurd H (by simp)
                              · rw [if_neg c35] at H
                                exact absurd H (by simp)
                          · rw [if_neg c30] at H
                            exact absurd H (by simp)
                        · replace c29 := Bool.eq_false_iff.mpr c29
                          subst c29
                          have H1 : (some (([] : List (S127)), t113)) = some (r1, r2) := by rw [if_neg (show ¬ (false = true) by decide)] at H; exact H
                          clear H
                          have H := H1
                          clear H1
                          simp only [Option.some.injEq, Prod.mk.injEq] at H
                          obtain ⟨rfl, rfl⟩ := H
                          go_wp2_with (first | ((with_reducible refine gate_callee (f := 123) rfl ?_); refine goesL_ (some 60) rfl rfl Tryd.func123 (by kernel_rfl) rfl #[.string a0, .int .i64 x6_2] rfl (by (try simp only [List.map_toArray, List.map_cons, List.map_nil]); first | done | rfl | (simp only [List.length_drop, List.length_take]; rfl)) ?_; (with_reducible refine (bitset_digits.calls kj19 a0 x6_2 t110 t111 t112 t113 false _ A28.out).mono ?_); rintro e w54 ⟨rfl, hb⟩; refine ⟨_, rfl, ?_⟩; have n0_ := Aside0.mk (Kd.R_below (by (with_reducible repeat (first | apply Kd.R_alloc | apply Kd.R_drewN | apply Kd.R_drew)); exact HO_4.out) hb); have n1_ := Aside0.mk (blk_below (g := gb106) (o := .cells #[.int .i64 x107000_2, .int .i64 x107001_2, .bool x107002_2] 127 (0, 0)) (by (with_reducible repeat (first | refine blk_drewN ?_ _ | refine blk_drew ?_ | refine blk_alloc ?_ _)); exact BK106.out) hb); have n2_ := Aside0.mk (below_step (by repeat (first | (with_reducible first | exact HB.out | apply below_alloc | apply pw_below_drewN | apply below_drew1 | refine below_set ?_ GE106.out) | exact HB.out)) hb); clear HO_4; clear BK106; clear HB; have HO_4 := n0_; have BK106 := n1_; have HB := n2_; clear n0_ n1_ n2_; (try clear hb); (try clear hb2); (try clear hk); (try clear hi); have hcz55_0 : w54.cell? ⟨gb106, 0, none⟩ = some (.int .i64 x107000_2) := (blk_cell BK106.out 0).trans rfl; have hcz55_1 : w54.cell? ⟨gb106, 1, none⟩ = some (.int .i64 x107001_2) := (blk_cell BK106.out 1).trans rfl; have hcz55_2 : w54.cell? ⟨gb106, 2, none⟩ = some (.bool x107002_2) := (blk_cell BK106.out 2).trans rfl; have hfz55_0 := blk_frozen BK106.out 0; have hfz55_1 := blk_frozen BK106.out 1; have hfz55_2 := blk_frozen BK106.out 2))
                          go_ret2
                          exact ⟨_, by first | rfl | (simp [errW_none, errW_some] <;> rfl) | (simp [*, errW_none, errW_some] <;> rfl), by first | exact Kd.R_nil _ _ _ _ _ | exact Kd.N_nil _ _ _ _ _ | exact Kd.V_nil _ _ _ _ _ | exact Kd.Q_nil _ _ _ _ _ | exact Kd.S_nil _ _ _ _ _, by repeat (first | (with_reducible first | exact HB.out | apply below_alloc | apply pw_below_drewN | apply below_drew1 | refine below_set ?_ GE106.out) | exact HB.out)⟩
                  · replace c19 := Bool.eq_false_iff.mpr c19
                    subst c19
                    have H1 : (some (x4_2, (-1))) = some (r1, r2) := by rw [if_neg (show ¬ (false = true) by decide)] at H; exact H
                    clear H
                    have H := H1
                    clear H1
                    simp only [Option.some.injEq, Prod.mk.injEq] at H
                    obtain ⟨rfl, rfl⟩ := H
                    go_wp2
                    go_ret2
                    exact ⟨_, by first | rfl | (simp [errW_none, errW_some] <;> rfl) | (simp [*, errW_none, errW_some] <;> rfl), by (with_reducible repeat (first | apply Kd.R_alloc | apply Kd.R_drewN | apply Kd.R_drew)); exact Kd.R_mono HO_4.out (fun _ hk => trivial), by repeat (first | (with_reducible first | exact HB.out | apply below_alloc | apply pw_below_drewN | apply below_drew1 | refine below_set ?_ GE106.out) | exact HB.out)⟩
        · rw [if_neg c13] at H
          exact absurd H (by simp)
end Go.Proofs.YtjmkhdhffmlhiaaDoor.PAll
end
section
namespace Go.Proofs.YtjmkhdhffmlhiaaDoor.PAll
set_option linter.unusedVariables false
set_option linter.unusedSimpArgs false
open Go.RowKit Go.Proofs.YtjmkhdhffmlhiaaDoorW.PrintWords Go.Proofs.YtjmkhdhffmlhiaaDoorW.PrintLast Go.Proofs.YtjmkhdhffmlhiaaDoorW.PrintMore
attribute [local go_sem] Oper.semAt_some
def pfill (n v : Int) : Nat → Int → List Int → Option (List Int)
  | 0, e, ws => if e ≤ v then none else some ws
  | k + 1, e, ws => if e ≤ v then (bitset_put.f n ws e).bind (pfill n v k (e + 1)) else some ws
def pgo (n : Int) : List S127 → List Int → Int → Option (Int × List Int × Int × Int)
  | [], ws, _ => some (n, ws, 0, 0)
  | x :: r, ws, ah =>
    if 0 ≤ x.f0 then
      if x.f0 < n then
        if x.f0 < (if x.f2 = true then ah + 1 else ah + 2) then some (0, [], x.f1, 1)
        else if 0 ≤ (if x.f2 = true then ah else x.f0) then
          (pfill n x.f0 (x.f0 + 1 - (if x.f2 = true then ah else x.f0)).toNat (if x.f2 = true then ah else x.f0) ws).bind fun ws' => pgo n r ws' x.f0
        else none
      else some (0, [], x.f1, 62)
    else some (0, [], x.f1, 62)
theorem rdN_nat (l : List S127) {j : Nat} (h : j < l.length) : rd_T127 l (j : Int) = l[j] := by
  unfold rd_T127
  simp [List.getD, h]
theorem pgo_far {n : Int} {x : S127} {r : List S127} {ws : List Int} {ah : Int} (h : ¬ 0 ≤ x.f0 ∨ ¬ x.f0 < n) : pgo n (x :: r) ws ah = some (0, [], x.f1, 62) := by
  unfold pgo
  split
  · split
    · rename_i h1 h2
      rcases h with h | h
      · exact absurd h1 h
      · exact absurd h2 h
    · rfl
  · rfl
theorem pgo_low {n : Int} {x : S127} {r : List S127} {ws : List Int} {ah : Int} (h0 : 0 ≤ x.f0) (h1 : x.f0 < n) (h2 : x.f0 < (if x.f2 = true then ah + 1 else ah + 2)) : pgo n (x :: r) ws ah = some (0, [], x.f1, 1) := by
  rw [pgo, if_pos h0, if_pos h1, if_pos h2]
theorem pgo_next {n : Int} {x : S127} {r : List S127} {ws : List Int} {ah : Int} (h0 : 0 ≤ x.f0) (h1 : x.f0 < n) (h2 : ¬ x.f0 < (if x.f2 = true then ah + 1 else ah + 2)) : pgo n (x :: r) ws ah = if 0 ≤ (if x.f2 = true then ah else x.f0) then
          (pfill n x.f0 (x.f0 + 1 - (if x.f2 = true then ah else x.f0)).toNat (if x.f2 = true then ah else x.f0) ws).bind fun ws' => pgo n r ws' x.f0
        else none := by
  rw [pgo, if_pos h0, if_pos h1, if_neg h2]
theorem put_len {n : Int} {ws r : List Int} {e : Int} (h : bitset_put.f n ws e = some r) : r.length = ws.length := by
  unfold bitset_put.f at h
  split at h
  · split at h
    · split at h
      · injection h with h
        rw [← h, List.length_set]
      · cases h
    · cases h
  · cases h
set_option maxHeartbeats 8000000 in
set_option maxRecDepth 100000 in
theorem Parse_yes (kn : Nat) (a0 : ByteArray) (x0 : S127) (l : List S127) (n : Nat) (ws0 rw : List Int) (r1 r3 r4 : Int) (w : World) (hsz : (a0.size : Int) ≤ 65536) (hl : bitset_numbers.f kn a0 = some (x0 :: l, -1)) (hx : x0.f0 = (n : Int)) (hn : n ≤ 4096) (hlen : l.length < 100000)
    (hS : bitset_sized.f (n : Int) = some true) (hBl : bitset_blank.f (n : Int) = some ((n : Int), ws0)) (hP : pgo (n : Int) l ws0 (-2) = some (r1, rw, r3, r4)) :
    Calls Tryd.prog 64 #[.string a0] w fun e w' => ∃ v : Value, e = .returned (.tuple #[.agg #[.int .i64 r1, v], .int .i64 r3, .int .i64 r4]) ∧ Kd.R (Kd.int .u64) 87 w' w.heap.size (fun _ => True) v rw ∧ Below w.heap.size w w' := by
  have hu24 := Tryd.underlying24
  have hu95 := Tryd.underlying127
  have HL0 := Aside0.mk hl
  have HS0 := Aside0.mk hS
  have HBl := Aside0.mk hBl
  have HP0 := Aside0.mk hP
  clear hl hS hBl hP
  obtain ⟨o2, ho2⟩ : ∃ o2 : Obj, o2 = .cells #[.int .i64 0, .slice none 0 0] 24 (0, 0) := ⟨_, rfl⟩
  have K1 : (w.alloc o2).heap[w.heap.size]? = some o2 := blk_new w o2
  have HB0 : Below w.heap.size w (w.alloc o2) := below_alloc (Below.refl _ _) _
  have hs3 : w.heap.size + 1 ≤ (w.alloc o2).heap.size := by rw [World.size_alloc]; omega
  rw [ho2] at K1 HB0 hs3
  clear ho2 o2
  have KD := Aside0.mk K1
  have HB := Aside0.mk HB0
  have HS3 := Aside0.mk hs3
  clear K1 HB0 hs3
  have hgt : ¬ ((65536 : Int) < (a0.size : Int)) := by omega
  have hgd : decide ((65536 : Int) < (a0.size : Int)) = false := decide_eq_false hgt
  refine (callsIn_wide (n := 6)).1 ?_
  refine callsIn_of_wp Tryd.func64 rfl trivial ?_ rfl
  simp only [Tryd.ntmps64, List.size_toArray, List.length_cons, List.length_nil, Nat.reduceAdd, Nat.reduceSub, Array.replicate_succ, Array.replicate_zero, List.push_toArray, List.append_toArray, List.nil_append, List.cons_append]
  gi_wp2_with fail
  refine ⟨trivial, ?_⟩; gi_at_call 106
  refine (callsIn_wide.2 (bitset_numbers.calls kn a0 (x0 :: l) (-1) _ HL0.out)).mono ?_
  rintro e w1 ⟨vl, rfl, ho, hb⟩
  obtain ⟨Al, cl, et⟩ := Kd.R_slice ho
  subst et
  have n2_ := Aside0.mk (blk_below KD.out hb); have n3_ := Aside0.mk (below_step HB.out hb); have n4_ := Aside0.mk (Nat.le_trans HS3.out (below_size hb))
  have HL := Aside0.mk (Kd.R_lower (Kd.R_mono (Kd.R_bound ho) (fun k_ hk_ => show w.heap.size + 1 ≤ k_ ∧ k_ < w1.heap.size from ⟨Nat.le_trans HS3.out hk_.2.1, hk_.2.2.1⟩)) (below_size HB.out))
  clear KD HB hb HS3 ho
  have KD := n2_; have HB := n3_; have HS3 := n4_
  clear n2_ n3_ n4_
  obtain ⟨Al', cl', ev, hcl, hCl⟩ := Kd.R_reads HL.out
  injection ev with e1 e2 e3
  subst e1 e3
  clear e2
  obtain ⟨ad, eA, q0, q1, q2⟩ := at_T127 hCl 0 (by omega) (by simp only [List.length_cons]; omega)
  subst eA
  obtain ⟨gl, rfl⟩ := Kd.R_head HL.out
  have hrd : rd_T127 (x0 :: l) 0 = x0 := rfl
  rw [hrd, hx] at q0
  rw [hrd] at q1 q2
  replace q0 := (show w1.cell? ⟨gl, 0, none⟩ = some (.int .i64 (n : Int)) from q0)
  clear q1 q2 hCl
  gi_wp2_with fail
  refine ⟨trivial, ?_⟩; gi_at_call 76
  refine (callsIn_wide.2 (bitset_sized.calls (n : Int) true _ HS0.out)).mono ?_
  rintro e w2 ⟨rfl, hd⟩
  have hb := hd.below
  have n1_ := Aside0.mk (blk_below KD.out hb); have n2_ := Aside0.mk (below_step HB.out hb); have n3_ := Aside0.mk (Kd.R_below HL.out hb); have n4_ := Aside0.mk (below_size hb)
  have q1 := (hb.cell (World.block_lt_of_cell? _ _ q0)).trans q0
  clear KD HB HL hb hd q0
  have KD := n1_; have HB := n2_; have HL := n3_; have HS4 := n4_; have q0 := q1
  clear n1_ n2_ n3_ n4_ q1
  gi_wp2_with fail
  refine ⟨trivial, ?_⟩; gi_at_call 70
  refine (callsIn_wide.2 (bitset_blank.calls (n : Int) (n : Int) ws0 _ HBl.out)).mono ?_
  rintro e w3 ⟨vs, rfl, ho, hb⟩
  obtain ⟨As, cs, et⟩ := Kd.R_slice ho
  subst et
  have n1_ := Aside0.mk (blk_below KD.out hb); have n2_ := Aside0.mk (below_step HB.out hb); have n3_ := Aside0.mk (Kd.R_below HL.out hb)
  have HW := Aside0.mk (Kd.R_lower (Kd.R_mono (Kd.R_bound ho) (fun k_ hk_ => show w1.heap.size ≤ k_ ∧ k_ < w3.heap.size from ⟨Nat.le_trans HS4.out hk_.2.1, hk_.2.2.1⟩)) (below_size HB.out))
  have HS5 := Aside0.mk (Nat.le_trans HS4.out (below_size hb))
  clear KD HB HL hb ho q0
  have KD := n1_; have HB := n2_; have HL := n3_
  clear n1_ n2_ n3_
  gi_wp2_with fail
  · have hl0 : l = [] := by
      cases l with
      | nil => rfl
      | cons _ _ => simp only [List.length_cons] at hcl; omega
    subst hl0
    obtain ⟨Inv, hInv⟩ : ∃ Inv : Act → World → Prop, Inv = (fun a W => a = { tmps := #[.string a0, undef, .pointer (some ⟨w.heap.size, 0, none⟩), .int .i64 0, .int .i64 0, .slice (some ⟨gl, 0, none⟩) (([] : List S127).length + 1) 1, .int .i64 (-1), .pointer (some ⟨w3.heap.size, 0, none⟩), .int .i64 (-2), undef, undef, undef, undef, undef, .string a0, .int .i64 a0.size, .bool false, undef, .tuple #[.slice (some ⟨gl, 0, none⟩) (([] : List S127).length + 1) 1, .int .i64 (-1)], .string a0, .tuple #[.slice (some ⟨gl, 0, none⟩) (([] : List S127).length + 1) 1, .int .i64 (-1)], .slice (some ⟨gl, 0, none⟩) (([] : List S127).length + 1) 1, .int .i64 (-1), .int .i64 (-1), .bool false, undef, undef, .slice (some ⟨gl, 0, none⟩) (([] : List S127).length + 1) 1, .pointer (some ⟨gl, 0, none⟩), .pointer (some ⟨gl, 0, none⟩), .int .i64 n, .bool true, .bool false, undef, .slice (some ⟨gl, 0, none⟩) (([] : List S127).length + 1) 1, .pointer (some ⟨gl, 0, none⟩), .pointer (some ⟨gl, 0, none⟩), .int .i64 n, .agg #[.int .i64 n, .slice As ws0.length cs], .slice (some ⟨gl, 0, none⟩) (([] : List S127).length + 1) 1, .slice (some ⟨gl, 0, none⟩) ([] : List S127).length 0, .int .i64 ([] : List S127).length, .int .i64 0, undef, undef, undef, undef, undef, undef, undef, undef, undef, undef, undef, undef, undef, undef, undef, undef, undef, undef, undef, undef, undef, undef, undef, undef, undef, undef, undef, undef, undef, undef, undef, undef, undef, undef, undef, undef, undef, undef, undef, undef, undef, undef, undef, undef, undef], defers := [] } ∧ W = w3.alloc (.cells #[.int .i64 n, .slice As ws0.length cs] 24 (0, 0))) := ⟨_, rfl⟩
    refine wpIn_loop Inv (fun a _ => 0) ?start ?round
    case start =>
      rw [hInv]
      exact ⟨rfl, rfl⟩
    case round =>
      intro a wr hI
      rw [hInv] at hI
      clear hInv
      obtain ⟨rfl, rfl⟩ := hI
      have KS := Aside0.mk (blk_new w3 (.cells #[.int .i64 n, .slice As ws0.length cs] 24 (0, 0)))
      have nKD := Aside0.mk (blk_alloc KD.out (.cells #[.int .i64 n, .slice As ws0.length cs] 24 (0, 0))); have nHW := Aside0.mk (Kd.R_alloc HW.out (.cells #[.int .i64 n, .slice As ws0.length cs] 24 (0, 0))); have nHB := Aside0.mk (below_alloc HB.out (.cells #[.int .i64 n, .slice As ws0.length cs] 24 (0, 0)))
      clear KD HW HB HL
      have KD := nKD; have HW := nHW; have HB := nHB
      clear nKD nHW nHB
      have hA := HP0.out
      simp only [pgo, Option.some.injEq, Prod.mk.injEq] at hA
      have HA0 := Aside0.mk hA
      clear hA
      have q0 := (blk_cell KS.out 0).trans rfl
      have q1 := (blk_cell KS.out 1).trans rfl
      have q2 := (blk_cell KD.out 0).trans rfl
      have q3 := (blk_cell KD.out 1).trans rfl
      have z0 := blk_frozen KD.out 0
      have z1 := blk_frozen KD.out 1
      gi_wp2_with fail
      obtain ⟨X, hX⟩ : ∃ X, ((w3.alloc (.cells #[.int .i64 n, .slice As ws0.length cs] 24 (0, 0))).setCell ⟨w.heap.size, 0, none⟩ (Value.int IntKind.i64 n)).setCell ⟨w.heap.size, 1, none⟩ (Value.slice As ws0.length cs) = X := ⟨_, rfl⟩
      have hKX : Kept (w3.alloc (.cells #[.int .i64 n, .slice As ws0.length cs] 24 (0, 0))) X (fun k_ => k_ = w.heap.size) := by
        refine ⟨by rw [← hX, World.size_setCell, World.size_setCell]; exact Nat.le_refl _, fun k_ hk_ hn_ => ?_⟩
        rw [← hX, Below.heap_setCell _ _ _ _ hn_, Below.heap_setCell _ _ _ _ hn_]
      have hXg : X.heap[w.heap.size]? = some (.cells #[.int .i64 n, .slice As ws0.length cs] 24 (0, 0)) := hX ▸ blk_put (blk_put KD.out 0 (Value.int IntKind.i64 n) rfl) 1 (Value.slice As ws0.length cs) rfl
      have hXB : Below w.heap.size w X := hX ▸ below_set (below_set HB.out (Nat.le_refl _)) (Nat.le_refl _)
      have hXS := Kd.R_kept HW.out hKX (fun k_ hk_ e => absurd hk_.1 (by have := HS3.out; have : k_ = w.heap.size := e; omega))
      subst hX
      have c0 := (blk_cell hXg 0).trans rfl
      have c1 := (blk_cell hXg 1).trans rfl
      obtain ⟨rfl, rfl, rfl, rfl⟩ := HA0.out
      refine bodyPost_ret (v := .tuple #[.agg #[.int .i64 n, .slice As ws0.length cs], .int .i64 0, .int .i64 0]) ?_ rfl ⟨_, rfl, Kd.R_mono hXS (fun _ _ => trivial), hXB⟩
      simp [results, Tryd.f64, go_sem, c0, c1]
  · obtain ⟨Inv, hInv⟩ : ∃ Inv : Act → World → Prop, Inv = (fun a W => ∃ (i : Nat) (ah : Int) (ws : List Int) (u10 u11 u12 u13 u43 u44 u45 u46 u47 u48 u49 u50 u51 u52 u53 u54 u55 u56 u57 u61 u62 u63 u64 u65 u69 u70 u71 u72 u73 u74 u75 u76 u77 u78 u79 u80 u81 u82 u83 u84 u85 u86 : Value), a = { tmps := #[.string a0, undef, .pointer (some ⟨w.heap.size, 0, none⟩), .int .i64 0, .int .i64 0, .slice (some ⟨gl, 0, none⟩) (l.length + 1) cl, .int .i64 (-1), .pointer (some ⟨w3.heap.size, 0, none⟩), .int .i64 ah, undef, u10, u11, u12, u13, .string a0, .int .i64 a0.size, .bool false, undef, .tuple #[.slice (some ⟨gl, 0, none⟩) (l.length + 1) cl, .int .i64 (-1)], .string a0, .tuple #[.slice (some ⟨gl, 0, none⟩) (l.length + 1) cl, .int .i64 (-1)], .slice (some ⟨gl, 0, none⟩) (l.length + 1) cl, .int .i64 (-1), .int .i64 (-1), .bool false, undef, undef, .slice (some ⟨gl, 0, none⟩) (l.length + 1) cl, .pointer (some ⟨gl, 0, none⟩), .pointer (some ⟨gl, 0, none⟩), .int .i64 n, .bool true, .bool false, undef, .slice (some ⟨gl, 0, none⟩) (l.length + 1) cl, .pointer (some ⟨gl, 0, none⟩), .pointer (some ⟨gl, 0, none⟩), .int .i64 n, .agg #[.int .i64 n, .slice As ws0.length cs], .slice (some ⟨gl, 0, none⟩) (l.length + 1) cl, .slice (some ⟨gl, 3, none⟩) l.length (cl - 1), .int .i64 l.length, .int .i64 i, u43, u44, u45, u46, u47, u48, u49, u50, u51, u52, u53, u54, u55, u56, u57, undef, undef, undef, u61, u62, u63, u64, u65, undef, undef, undef, u69, u70, u71, u72, u73, u74, u75, u76, u77, u78, u79, u80, u81, u82, u83, u84, u85, u86, undef], defers := [] } ∧ Aside0 (i ≤ l.length) ∧ Aside0 (ws.length = ws0.length ∧ -2 ≤ ah ∧ ah < 4096) ∧ Aside0 (pgo (n : Int) (l.drop i) ws ah = some (r1, rw, r3, r4)) ∧
      Aside0 (W.heap[w.heap.size]? = some (.cells #[.int .i64 0, .slice none 0 0] 24 (0, 0))) ∧ Aside0 (W.heap[w3.heap.size]? = some (.cells #[.int .i64 n, .slice As ws0.length cs] 24 (0, 0))) ∧
      Aside0 (Kd.R k127 127 W w.heap.size (fun k_ => w.heap.size + 1 ≤ k_ ∧ k_ < w1.heap.size) (.slice (some ⟨gl, 0, none⟩) (x0 :: l).length cl) (x0 :: l)) ∧ Aside0 (Kd.R (Kd.int .u64) 87 W w.heap.size (fun k_ => w1.heap.size ≤ k_ ∧ k_ < w3.heap.size) (.slice As ws0.length cs) ws) ∧ Aside0 (Below w.heap.size w W)) := ⟨_, rfl⟩
    refine wpIn_loop Inv (fun a _ => l.length - (intOf (a.tmps.getD 42 undef)).toNat) ?start ?round
    case start =>
      rw [hInv]
      exact ⟨0, -2, ws0, undef, undef, undef, undef, undef, undef, undef, undef, undef, undef, undef, undef, undef, undef, undef, undef, undef, undef, undef, undef, undef, undef, undef, undef, undef, undef, undef, undef, undef, undef, undef, undef, undef, undef, undef, undef, undef, undef, undef, undef, undef, undef, rfl, ⟨Nat.zero_le _⟩, ⟨rfl, by omega, by omega⟩, HP0, ⟨blk_alloc KD.out _⟩, ⟨blk_new _ _⟩, ⟨Kd.R_alloc HL.out _⟩, ⟨Kd.R_alloc HW.out _⟩, ⟨below_alloc HB.out _⟩⟩
    case round =>
      clear KD HB HL HW HP0
      intro a wr hI
      rw [hInv] at hI
      have HInv := Aside0.mk hInv
      clear hInv
      obtain ⟨i, ah, ws, u10, u11, u12, u13, u43, u44, u45, u46, u47, u48, u49, u50, u51, u52, u53, u54, u55, u56, u57, u61, u62, u63, u64, u65, u69, u70, u71, u72, u73, u74, u75, u76, u77, u78, u79, u80, u81, u82, u83, u84, u85, u86, rfl, hi, hah, HA, KD, KS, HL, HW, HB⟩ := hI
      by_cases hlt : i < l.length
      · obtain ⟨Al', cl', ev, hcl', hCl⟩ := Kd.R_reads HL.out
        injection ev with e1 e2 e3
        subst e1 e3
        clear e2
        obtain ⟨ad, eA, q0, q1, q2⟩ := at_T127 hCl ((i + 1 : Nat) : Int) (by omega) (by simp only [List.length_cons]; omega)
        injection eA with eA
        subst eA
        obtain ⟨x, hx⟩ : ∃ x, l[i] = x := ⟨_, rfl⟩
        have hrd : rd_T127 (x0 :: l) ((i + 1 : Nat) : Int) = x := by rw [rdN_nat (x0 :: l) (by simp only [List.length_cons]; omega)]; simpa using hx
        rw [hrd] at q0 q1 q2
        simp only [Int.toNat_natCast, Addr.add, Nat.zero_add] at q0 q1 q2
        rw [show (i + 1) * 3 = 3 + i * 3 from by omega, if_neg (show ¬ 3 + i * 3 = 0 from by omega)] at q0 q1 q2
        simp only at q0 q1 q2
        have hA := HA.out
        rw [List.drop_eq_getElem_cons hlt, hx] at hA
        have HA1 := Aside0.mk hA
        clear hA HA hCl hrd
        have HA := HA1
        clear HA1
        have hd : decide (i < l.length) = true := decide_eq_true hlt
        obtain ⟨xv, xa, xb⟩ := x
        simp only at q0 q1 q2
        cases xb with
        | false =>
          have HUr := Aside0.mk (blk_lt KS.out)
          have HWR := Aside0.mk (show wrap64 (ah + 2) = ah + 2 from by have h := hah.out; unfold wrap64; omega)
          have KN := Aside0.mk (blk_new wr (.cells #[.int .i64 xv, .int .i64 xa, .bool false] 127 (0, 0)))
          have nKD := Aside0.mk (blk_alloc KD.out (.cells #[.int .i64 xv, .int .i64 xa, .bool false] 127 (0, 0))); have nKS := Aside0.mk (blk_alloc KS.out (.cells #[.int .i64 xv, .int .i64 xa, .bool false] 127 (0, 0))); have nHL := Aside0.mk (Kd.R_alloc HL.out (.cells #[.int .i64 xv, .int .i64 xa, .bool false] 127 (0, 0))); have nHW := Aside0.mk (Kd.R_alloc HW.out (.cells #[.int .i64 xv, .int .i64 xa, .bool false] 127 (0, 0))); have nHB := Aside0.mk (below_alloc HB.out (.cells #[.int .i64 xv, .int .i64 xa, .bool false] 127 (0, 0)))
          clear KD KS HL HW HB
          have KD := nKD; have KS := nKS; have HL := nHL; have HW := nHW; have HB := nHB
          clear nKD nKS nHL nHW nHB
          have z0 := (blk_cell KS.out 0).trans rfl; have z1 := (blk_cell KS.out 1).trans rfl; have y0 := (blk_cell KN.out 0).trans rfl; have y1 := (blk_cell KN.out 1).trans rfl; have y2 := (blk_cell KN.out 2).trans rfl
          gi_wp2_with fail
          refine ⟨trivial, ?_⟩; gi_at_call 71
          obtain ⟨Aw, cw, ev, hcw, hCw⟩ := Kd.R_reads HW.out
          injection ev with e1 e2 e3
          subst e1 e3
          have hwl : ws.length = ws0.length := hah.out.1
          rw [← hwl]
          obtain ⟨r, hr⟩ : ∃ r, bitset_within.f (n : Int) ws xv = some r := by
            unfold bitset_within.f
            split <;> exact ⟨_, rfl⟩
          refine (callsIn_wide.2 (bitset_within.calls (n : Int) _ _ ws xv r _ hCw hcw hr)).mono ?_
          rintro e w4 ⟨rfl, hb⟩
          clear z0 z1 y0 y1 y2 q0 q1 q2 hCw e2
          rw [hwl]
          have mKD := Aside0.mk (blk_below KD.out hb)
          have mKS := Aside0.mk (blk_below KS.out hb)
          have mKN := Aside0.mk (blk_below KN.out hb)
          have mHL := Aside0.mk (Kd.R_below HL.out hb)
          have mHW := Aside0.mk (Kd.R_below HW.out hb)
          have mHB := Aside0.mk (below_step HB.out hb)
          clear KD KS KN HL HW HB
          have KD := mKD
          have KS := mKS
          have KN := mKN
          have HL := mHL
          have HW := mHW
          have HB := mHB
          clear mKD mKS mKN mHL mHW mHB
          clear hb
          have y0 := (blk_cell KN.out 0).trans rfl; have y1 := (blk_cell KN.out 1).trans rfl; have y2 := (blk_cell KN.out 2).trans rfl
          by_cases hv0 : 0 ≤ xv
          · by_cases hv1 : xv < (n : Int)
            · obtain rfl : r = true := by
                have h := hr
                unfold bitset_within.f at h
                rw [if_pos (by omega)] at h
                injection h with h
                rw [← h]
                exact decide_eq_true hv1
              by_cases hlt1 : xv < ah + 2
              · have hcmp : decide (xv < wrap64 (ah + 2)) = true := by rw [HWR.out]; exact decide_eq_true hlt1
                gi_wp2_with fail
                clear y0 y1 y2
                have hmx : Tryd.prog.follows .mixedOrders = true := by kernel_rfl
                have KD4 := Aside0.mk (blk_drew KD.out)
                have HB4 := Aside0.mk (below_drew1 HB.out)
                have KN4 := Aside0.mk (blk_drew KN.out)
                have hDN : w.heap.size ≠ wr.heap.size := by have := HUr.out; have := HS3.out; have := HS5.out; omega
                refine wpIn_wide.2 ?_
                refine start_ (n := 6) (S := fun w' => w'.cell? ⟨wr.heap.size, 1, none⟩ = some (.int .i64 xa)) (ds := []) #[false, false, false, false, false, false] hmx (by kernel_rfl) rfl ((blk_cell (blk_drew KN.out) 1).trans rfl) (fun hHeld => ?_)
                generalize World.drew w4 = W4 at KD4 HB4 KN4 hHeld ⊢
                refine pure_ (i := 0) (N := some 66) (v := ?_) (a' := ?_) #[true, false, false, false, false, false] rfl rfl (by kernel_rfl) (fun _ _ _ h => h) (Or.inl ⟨by rfl, ?_⟩) ?_ ?_
                rotate_left
                · intro w'
                  go_simp
                  with_reducible rfl
                rotate_left
                · simp only [Act.put, List.setIfInBounds_toArray, List.set_cons_zero, List.set_cons_succ, i64_w, i32_w]
                  rfl
                refine pure_ (i := 1) (N := some 67) (v := ?_) (a' := ?_) #[true, true, false, false, false, false] rfl rfl (by kernel_rfl) (fun _ _ _ h => h) (Or.inl ⟨by rfl, ?_⟩) ?_ ?_
                rotate_left
                · intro w'
                  go_simp
                  with_reducible rfl
                rotate_left
                · simp only [Act.put, List.setIfInBounds_toArray, List.set_cons_zero, List.set_cons_succ, i64_w, i32_w]
                  rfl
                refine take_ (i := 2) (N := some 68) (v := ?_) (a' := ?_) #[true, true, true, false, false, false] rfl rfl (by kernel_rfl) (fun _ _ _ h => h) (Or.inl ⟨by rfl, ?_⟩) hHeld ?_ ?_
                rotate_left
                · intro w' s0
                  go_simp
                  with_reducible rfl
                rotate_left
                · simp only [Act.put, List.setIfInBounds_toArray, List.set_cons_zero, List.set_cons_succ, i64_w, i32_w]
                  rfl
                refine one_ (i := 3) (N := none) #[true, true, true, true, false, false] rfl rfl (by kernel_rfl) (by decide) (fun K hK => ?_)
                have t0 := (blk_cell KD4.out 0).trans rfl
                have t1 := (blk_cell KD4.out 1).trans rfl
                have f0 := blk_frozen KD4.out 0
                have f1 := blk_frozen KD4.out 1
                refine skip_ (w1 := ?_) (by rfl) rfl ?_ ?_
                rotate_left
                · go_simp
                  rfl
                obtain ⟨X, hX⟩ : ∃ X, (W4.setCell ⟨w.heap.size, 0, none⟩ (.int .i64 0)).setCell ⟨w.heap.size, 1, none⟩ (.slice none 0 0) = X := ⟨_, rfl⟩
                rw [hX]
                refine hK.out _ _ ((blk_cell (hX ▸ blk_far (blk_far KN4.out (fun e => hDN e.symm) _) (fun e => hDN e.symm) _) 1).trans rfl) (fun hHeld => ?_)
                clear hK K t0 t1 f0 f1
                refine pure_ (i := 4) (N := some 3) (v := ?_) (a' := ?_) #[true, true, true, true, true, false] rfl rfl (by kernel_rfl) (fun _ _ _ h => h) (Or.inl ⟨by rfl, ?_⟩) ?_ ?_
                rotate_left
                · intro w'
                  go_simp
                  with_reducible rfl
                rotate_left
                · simp only [Act.put, List.setIfInBounds_toArray, List.set_cons_zero, List.set_cons_succ, i64_w, i32_w]
                  rfl
                refine pure_ (i := 5) (N := some 4) (v := ?_) (a' := ?_) #[true, true, true, true, true, true] rfl rfl (by kernel_rfl) (fun _ _ _ h => h) (Or.inl ⟨by rfl, ?_⟩) ?_ ?_
                rotate_left
                · intro w'
                  go_simp
                  with_reducible rfl
                rotate_left
                · simp only [Act.put, List.setIfInBounds_toArray, List.set_cons_zero, List.set_cons_succ, i64_w, i32_w]
                  rfl
                refine done_ (by kernel_rfl) ?_
                have hXg : X.heap[w.heap.size]? = some (.cells #[.int .i64 0, .slice none 0 0] 24 (0, 0)) := hX ▸ blk_put (blk_put KD4.out 0 (Value.int IntKind.i64 0) rfl) 1 (Value.slice none 0 0) rfl
                have hXB : Below w.heap.size w X := hX ▸ below_set (below_set HB4.out (Nat.le_refl _)) (Nat.le_refl _)
                clear hX
                gi_wp2_with fail
                have c0 := (blk_cell hXg 0).trans rfl
                have c1 := (blk_cell hXg 1).trans rfl
                have hA := HA.out
                rw [pgo_low hv0 hv1 (by simpa using hlt1)] at hA
                simp only [Option.some.injEq, Prod.mk.injEq] at hA
                obtain ⟨rfl, rfl, rfl, rfl⟩ := hA
                refine bodyPost_ret (v := .tuple #[.agg #[.int .i64 0, .slice none 0 0], .int .i64 xa, .int .i64 1]) ?_ rfl ⟨_, rfl, Kd.R_nil _ _ _ _ _, hXB⟩
                simp [results, Tryd.f64, go_sem, c0, c1]
              · have hcmp : decide (xv < wrap64 (ah + 2)) = false := by rw [HWR.out]; exact decide_eq_false hlt1
                gi_wp2_with fail
                clear y0 y1 y2 hcmp
                have hA := HA.out
                rw [pgo_next hv0 hv1 (by simpa using hlt1)] at hA
                simp only [if_true, if_false, Bool.false_eq_true] at hA
                by_cases hf : 0 ≤ xv
                · rw [if_pos hf] at hA
                  obtain ⟨wsF, hF, hA2⟩ := Option.bind_eq_some_iff.1 hA
                  have HA2 := Aside0.mk hA2
                  have HF0 := Aside0.mk hF
                  clear hA hA2 hF HA
                  obtain ⟨Inw, hInw⟩ : ∃ Inw : Act → World → Prop, Inw = (fun a W => ∃ (e : Int) (ws' : List Int) (i11 i12 i44 i45 i46 i47 i48 i49 i50 i51 i52 i53 i54 i55 i56 i57 i61 i62 i63 i64 i65 i69 i70 i71 i72 i73 i74 i75 i76 i77 i78 i79 i80 i81 i82 i83 i84 i85 i86 : Value), a = { tmps := #[.string a0, undef, .pointer (some ⟨w.heap.size, 0, none⟩), .int .i64 0, .int .i64 0, .slice (some ⟨gl, 0, none⟩) (l.length + 1) cl, .int .i64 (-1), .pointer (some ⟨w3.heap.size, 0, none⟩), .int .i64 ah, undef, .pointer (some ⟨wr.heap.size, 0, none⟩), i11, i12, .int .i64 e, .string a0, .int .i64 a0.size, .bool false, undef, .tuple #[.slice (some ⟨gl, 0, none⟩) (l.length + 1) cl, .int .i64 (-1)], .string a0, .tuple #[.slice (some ⟨gl, 0, none⟩) (l.length + 1) cl, .int .i64 (-1)], .slice (some ⟨gl, 0, none⟩) (l.length + 1) cl, .int .i64 (-1), .int .i64 (-1), .bool false, undef, undef, .slice (some ⟨gl, 0, none⟩) (l.length + 1) cl, .pointer (some ⟨gl, 0, none⟩), .pointer (some ⟨gl, 0, none⟩), .int .i64 n, .bool true, .bool false, undef, .slice (some ⟨gl, 0, none⟩) (l.length + 1) cl, .pointer (some ⟨gl, 0, none⟩), .pointer (some ⟨gl, 0, none⟩), .int .i64 n, .agg #[.int .i64 n, .slice As ws0.length cs], .slice (some ⟨gl, 0, none⟩) (l.length + 1) cl, .slice (some ⟨gl, 3, none⟩) l.length (cl - 1), .int .i64 l.length, .int .i64 i, .bool true, i44, i45, i46, i47, i48, i49, i50, i51, i52, i53, i54, i55, i56, i57, undef, undef, undef, i61, i62, i63, i64, i65, undef, undef, undef, i69, i70, i71, i72, i73, i74, i75, i76, i77, i78, i79, i80, i81, i82, i83, i84, i85, i86, undef], defers := [] } ∧ Aside0 (ws'.length = ws0.length ∧ 0 ≤ e) ∧ Aside0 (pfill (n : Int) xv (xv + 1 - e).toNat e ws' = some wsF) ∧
                    Aside0 (W.heap[wr.heap.size]? = some (.cells #[.int .i64 xv, .int .i64 xa, .bool false] 127 (0, 0))) ∧ Aside0 (W.heap[w.heap.size]? = some (.cells #[.int .i64 0, .slice none 0 0] 24 (0, 0))) ∧ Aside0 (W.heap[w3.heap.size]? = some (.cells #[.int .i64 n, .slice As ws0.length cs] 24 (0, 0))) ∧
                Aside0 (Kd.R k127 127 W w.heap.size (fun k_ => w.heap.size + 1 ≤ k_ ∧ k_ < w1.heap.size) (.slice (some ⟨gl, 0, none⟩) (x0 :: l).length cl) (x0 :: l)) ∧ Aside0 (Kd.R (Kd.int .u64) 87 W w.heap.size (fun k_ => w1.heap.size ≤ k_ ∧ k_ < w3.heap.size) (.slice As ws0.length cs) ws') ∧ Aside0 (Below w.heap.size w W)) := ⟨_, rfl⟩
                  refine wpIn_loop Inw (fun a _ => (xv + 1 - intOf (a.tmps.getD 13 undef)).toNat) ?start ?round
                  case start =>
                    rw [hInw]
                    exact ⟨xv, ws, _, _, _, _, _, _, _, _, _, _, _, _, _, _, _, _, _, _, _, _, _, _, _, _, _, _, _, _, _, _, _, _, _, _, _, _, _, _, _, rfl, ⟨hwl, hf⟩, HF0, KN, KD, KS, HL, HW, HB⟩
                  case round =>
                    intro a wx hI
                    rw [hInw] at hI
                    have HInw := Aside0.mk hInw
                    clear hInw KN KD KS HL HW HB HF0
                    obtain ⟨e, ws', i11, i12, i44, i45, i46, i47, i48, i49, i50, i51, i52, i53, i54, i55, i56, i57, i61, i62, i63, i64, i65, i69, i70, i71, i72, i73, i74, i75, i76, i77, i78, i79, i80, i81, i82, i83, i84, i85, i86, rfl, he, HF, KN, KD, KS, HL, HW, HB⟩ := hI
                    have y0 := (blk_cell KN.out 0).trans rfl; have y1 := (blk_cell KN.out 1).trans rfl; have y2 := (blk_cell KN.out 2).trans rfl
                    have z0 := (blk_cell KS.out 0).trans rfl; have z1 := (blk_cell KS.out 1).trans rfl
                    by_cases hle : e ≤ xv
                    · have hd2 : decide (e ≤ xv) = true := decide_eq_true hle
                      have hF := HF.out
                      rw [show (xv + 1 - e).toNat = (xv + 1 - (e + 1)).toNat + 1 from by omega, pfill, if_pos hle] at hF
                      obtain ⟨wp, hp, hF2⟩ := Option.bind_eq_some_iff.1 hF
                      have HP := Aside0.mk hp
                      have HF2 := Aside0.mk hF2
                      have hpl := put_len hp
                      clear hF hF2 hp HF
                      have HWE := Aside0.mk (show wrap64 (e + 1) = e + 1 from by have h := he.out; unfold wrap64; omega)
                      gi_wp2_with fail
                      refine ⟨trivial, ?_⟩; gi_at_call 72
                      refine (callsIn_wide.2 (bitset_put.calls (n : Int) (fun k_ => w1.heap.size ≤ k_ ∧ k_ < w3.heap.size) _ ws' e wp w wx HB.out HW.out HP.out)).mono ?_
                      rintro e' w5 ⟨rfl, hR, hb, hk⟩
                      have mKD := Aside0.mk (blk_kept KD.out hk (fun h => absurd (show w1.heap.size ≤ w.heap.size from h.1) (by have := HS3.out; omega)))
                      have mKS := Aside0.mk (blk_kept KS.out hk (fun h => Nat.lt_irrefl _ h.2))
                      have mKN := Aside0.mk (blk_kept KN.out hk (fun h => absurd (show wr.heap.size < w3.heap.size from h.2) (by have := HUr.out; omega)))
                      have mHL := Aside0.mk (Kd.R_kept HL.out hk (fun k_ hk_ e => absurd hk_.2 (by have : w1.heap.size ≤ k_ := e.1; omega)))
                      have mHW := Aside0.mk (Kd.R_reok (ok := fun k_ => w1.heap.size ≤ k_ ∧ k_ < w3.heap.size) rfl hR (fun k_ hk_ => HW.out.1 k_ hk_))
                      have mHB := Aside0.mk hb
                      clear KD KS KN HL HW HB hR hb hk y0 y1 y2 z0 z1
                      gi_wp2_with fail
                      rw [HWE.out, HInw.out]
                      refine ⟨⟨e + 1, wp, _, _, _, _, _, _, _, _, _, _, _, _, _, _, _, _, _, _, _, _, _, _, _, _, _, _, _, _, _, _, _, _, _, _, _, _, _, _, _, rfl, ⟨by rw [hpl]; exact he.out.1, by have := he.out; omega⟩, HF2, mKN, mKD, mKS, mHL, mHW, mHB⟩, ?_⟩
                      show (xv + 1 - intOf (.int .i64 (e + 1))).toNat < (xv + 1 - intOf (.int .i64 e)).toNat
                      simp only [intOf]
                      omega
                    · have hd2 : decide (e ≤ xv) = false := decide_eq_false hle
                      have hF := HF.out
                      rw [show (xv + 1 - e).toNat = 0 from by omega, pfill, if_neg hle] at hF
                      injection hF with hF
                      subst hF
                      clear HF
                      gi_wp2_with fail
                      rw [show ((i : Int) + 1) = ((i + 1 : Nat) : Int) from by omega]
                      rw [HInv.out]
                      refine ⟨⟨i + 1, xv, ws', _, _, _, _, _, _, _, _, _, _, _, _, _, _, _, _, _, _, _, _, _, _, _, _, _, _, _, _, _, _, _, _, _, _, _, _, _, _, _, _, _, _, rfl, ⟨hlt⟩, ⟨he.out.1, by omega, by omega⟩, HA2, KD, KS, HL, HW, HB⟩, ?_⟩
                      show l.length - (intOf (.int .i64 ((i + 1 : Nat) : Int))).toNat < l.length - (intOf (.int .i64 (i : Int))).toNat
                      simp only [intOf, Int.toNat_natCast]
                      omega
                · first
                    | exact absurd hv0 hf
                    | (rw [if_neg hf] at hA; cases hA)
            · obtain rfl : r = false := by
                have h := hr
                unfold bitset_within.f at h
                rw [if_pos (by omega)] at h
                injection h with h
                rw [← h]
                exact decide_eq_false hv1
              have hlt1 : True := trivial
              gi_wp2_with fail
              clear y0 y1 y2
              have hmx : Tryd.prog.follows .mixedOrders = true := by kernel_rfl
              have KD4 := Aside0.mk (blk_drew KD.out)
              have HB4 := Aside0.mk (below_drew1 HB.out)
              have KN4 := Aside0.mk (blk_drew KN.out)
              have hDN : w.heap.size ≠ wr.heap.size := by have := HUr.out; have := HS3.out; have := HS5.out; omega
              refine wpIn_wide.2 ?_
              refine start_ (n := 6) (S := fun w' => w'.cell? ⟨wr.heap.size, 1, none⟩ = some (.int .i64 xa)) (ds := []) #[false, false, false, false, false, false] hmx (by kernel_rfl) rfl ((blk_cell (blk_drew KN.out) 1).trans rfl) (fun hHeld => ?_)
              generalize World.drew w4 = W4 at KD4 HB4 KN4 hHeld ⊢
              refine pure_ (i := 0) (N := some 58) (v := ?_) (a' := ?_) #[true, false, false, false, false, false] rfl rfl (by kernel_rfl) (fun _ _ _ h => h) (Or.inl ⟨by rfl, ?_⟩) ?_ ?_
              rotate_left
              · intro w'
                go_simp
                with_reducible rfl
              rotate_left
              · simp only [Act.put, List.setIfInBounds_toArray, List.set_cons_zero, List.set_cons_succ, i64_w, i32_w]
                rfl
              refine pure_ (i := 1) (N := some 59) (v := ?_) (a' := ?_) #[true, true, false, false, false, false] rfl rfl (by kernel_rfl) (fun _ _ _ h => h) (Or.inl ⟨by rfl, ?_⟩) ?_ ?_
              rotate_left
              · intro w'
                go_simp
                with_reducible rfl
              rotate_left
              · simp only [Act.put, List.setIfInBounds_toArray, List.set_cons_zero, List.set_cons_succ, i64_w, i32_w]
                rfl
              refine take_ (i := 2) (N := some 60) (v := ?_) (a' := ?_) #[true, true, true, false, false, false] rfl rfl (by kernel_rfl) (fun _ _ _ h => h) (Or.inl ⟨by rfl, ?_⟩) hHeld ?_ ?_
              rotate_left
              · intro w' s0
                go_simp
                with_reducible rfl
              rotate_left
              · simp only [Act.put, List.setIfInBounds_toArray, List.set_cons_zero, List.set_cons_succ, i64_w, i32_w]
                rfl
              refine one_ (i := 3) (N := none) #[true, true, true, true, false, false] rfl rfl (by kernel_rfl) (by decide) (fun K hK => ?_)
              have t0 := (blk_cell KD4.out 0).trans rfl
              have t1 := (blk_cell KD4.out 1).trans rfl
              have f0 := blk_frozen KD4.out 0
              have f1 := blk_frozen KD4.out 1
              refine skip_ (w1 := ?_) (by rfl) rfl ?_ ?_
              rotate_left
              · go_simp
                rfl
              obtain ⟨X, hX⟩ : ∃ X, (W4.setCell ⟨w.heap.size, 0, none⟩ (.int .i64 0)).setCell ⟨w.heap.size, 1, none⟩ (.slice none 0 0) = X := ⟨_, rfl⟩
              rw [hX]
              refine hK.out _ _ ((blk_cell (hX ▸ blk_far (blk_far KN4.out (fun e => hDN e.symm) _) (fun e => hDN e.symm) _) 1).trans rfl) (fun hHeld => ?_)
              clear hK K t0 t1 f0 f1
              refine pure_ (i := 4) (N := some 3) (v := ?_) (a' := ?_) #[true, true, true, true, true, false] rfl rfl (by kernel_rfl) (fun _ _ _ h => h) (Or.inl ⟨by rfl, ?_⟩) ?_ ?_
              rotate_left
              · intro w'
                go_simp
                with_reducible rfl
              rotate_left
              · simp only [Act.put, List.setIfInBounds_toArray, List.set_cons_zero, List.set_cons_succ, i64_w, i32_w]
                rfl
              refine pure_ (i := 5) (N := some 4) (v := ?_) (a' := ?_) #[true, true, true, true, true, true] rfl rfl (by kernel_rfl) (fun _ _ _ h => h) (Or.inl ⟨by rfl, ?_⟩) ?_ ?_
              rotate_left
              · intro w'
                go_simp
                with_reducible rfl
              rotate_left
              · simp only [Act.put, List.setIfInBounds_toArray, List.set_cons_zero, List.set_cons_succ, i64_w, i32_w]
                rfl
              refine done_ (by kernel_rfl) ?_
              have hXg : X.heap[w.heap.size]? = some (.cells #[.int .i64 0, .slice none 0 0] 24 (0, 0)) := hX ▸ blk_put (blk_put KD4.out 0 (Value.int IntKind.i64 0) rfl) 1 (Value.slice none 0 0) rfl
              have hXB : Below w.heap.size w X := hX ▸ below_set (below_set HB4.out (Nat.le_refl _)) (Nat.le_refl _)
              clear hX
              gi_wp2_with fail
              have c0 := (blk_cell hXg 0).trans rfl
              have c1 := (blk_cell hXg 1).trans rfl
              have hA := HA.out
              rw [pgo_far (Or.inr (show ¬ xv < (n : Int) from by omega))] at hA
              simp only [Option.some.injEq, Prod.mk.injEq] at hA
              obtain ⟨rfl, rfl, rfl, rfl⟩ := hA
              refine bodyPost_ret (v := .tuple #[.agg #[.int .i64 0, .slice none 0 0], .int .i64 xa, .int .i64 62]) ?_ rfl ⟨_, rfl, Kd.R_nil _ _ _ _ _, hXB⟩
              simp [results, Tryd.f64, go_sem, c0, c1]
          · obtain rfl : r = false := by
              have h := hr
              unfold bitset_within.f at h
              rw [if_neg (by omega)] at h
              injection h with h
              exact h.symm
            have hlt1 : True := trivial
            have hv1 : True := trivial
            gi_wp2_with fail
            clear y0 y1 y2
            have hmx : Tryd.prog.follows .mixedOrders = true := by kernel_rfl
            have KD4 := Aside0.mk (blk_drew KD.out)
            have HB4 := Aside0.mk (below_drew1 HB.out)
            have KN4 := Aside0.mk (blk_drew KN.out)
            have hDN : w.heap.size ≠ wr.heap.size := by have := HUr.out; have := HS3.out; have := HS5.out; omega
            refine wpIn_wide.2 ?_
            refine start_ (n := 6) (S := fun w' => w'.cell? ⟨wr.heap.size, 1, none⟩ = some (.int .i64 xa)) (ds := []) #[false, false, false, false, false, false] hmx (by kernel_rfl) rfl ((blk_cell (blk_drew KN.out) 1).trans rfl) (fun hHeld => ?_)
            generalize World.drew w4 = W4 at KD4 HB4 KN4 hHeld ⊢
            refine pure_ (i := 0) (N := some 58) (v := ?_) (a' := ?_) #[true, false, false, false, false, false] rfl rfl (by kernel_rfl) (fun _ _ _ h => h) (Or.inl ⟨by rfl, ?_⟩) ?_ ?_
            rotate_left
            · intro w'
              go_simp
              with_reducible rfl
            rotate_left
            · simp only [Act.put, List.setIfInBounds_toArray, List.set_cons_zero, List.set_cons_succ, i64_w, i32_w]
              rfl
            refine pure_ (i := 1) (N := some 59) (v := ?_) (a' := ?_) #[true, true, false, false, false, false] rfl rfl (by kernel_rfl) (fun _ _ _ h => h) (Or.inl ⟨by rfl, ?_⟩) ?_ ?_
            rotate_left
            · intro w'
              go_simp
              with_reducible rfl
            rotate_left
            · simp only [Act.put, List.setIfInBounds_toArray, List.set_cons_zero, List.set_cons_succ, i64_w, i32_w]
              rfl
            refine take_ (i := 2) (N := some 60) (v := ?_) (a' := ?_) #[true, true, true, false, false, false] rfl rfl (by kernel_rfl) (fun _ _ _ h => h) (Or.inl ⟨by rfl, ?_⟩) hHeld ?_ ?_
            rotate_left
            · intro w' s0
              go_simp
              with_reducible rfl
            rotate_left
            · simp only [Act.put, List.setIfInBounds_toArray, List.set_cons_zero, List.set_cons_succ, i64_w, i32_w]
              rfl
            refine one_ (i := 3) (N := none) #[true, true, true, true, false, false] rfl rfl (by kernel_rfl) (by decide) (fun K hK => ?_)
            have t0 := (blk_cell KD4.out 0).trans rfl
            have t1 := (blk_cell KD4.out 1).trans rfl
            have f0 := blk_frozen KD4.out 0
            have f1 := blk_frozen KD4.out 1
            refine skip_ (w1 := ?_) (by rfl) rfl ?_ ?_
            rotate_left
            · go_simp
              rfl
            obtain ⟨X, hX⟩ : ∃ X, (W4.setCell ⟨w.heap.size, 0, none⟩ (.int .i64 0)).setCell ⟨w.heap.size, 1, none⟩ (.slice none 0 0) = X := ⟨_, rfl⟩
            rw [hX]
            refine hK.out _ _ ((blk_cell (hX ▸ blk_far (blk_far KN4.out (fun e => hDN e.symm) _) (fun e => hDN e.symm) _) 1).trans rfl) (fun hHeld => ?_)
            clear hK K t0 t1 f0 f1
            refine pure_ (i := 4) (N := some 3) (v := ?_) (a' := ?_) #[true, true, true, true, true, false] rfl rfl (by kernel_rfl) (fun _ _ _ h => h) (Or.inl ⟨by rfl, ?_⟩) ?_ ?_
            rotate_left
            · intro w'
              go_simp
              with_reducible rfl
            rotate_left
            · simp only [Act.put, List.setIfInBounds_toArray, List.set_cons_zero, List.set_cons_succ, i64_w, i32_w]
              rfl
            refine pure_ (i := 5) (N := some 4) (v := ?_) (a' := ?_) #[true, true, true, true, true, true] rfl rfl (by kernel_rfl) (fun _ _ _ h => h) (Or.inl ⟨by rfl, ?_⟩) ?_ ?_
            rotate_left
            · intro w'
              go_simp
              with_reducible rfl
            rotate_left
            · simp only [Act.put, List.setIfInBounds_toArray, List.set_cons_zero, List.set_cons_succ, i64_w, i32_w]
              rfl
            refine done_ (by kernel_rfl) ?_
            have hXg : X.heap[w.heap.size]? = some (.cells #[.int .i64 0, .slice none 0 0] 24 (0, 0)) := hX ▸ blk_put (blk_put KD4.out 0 (Value.int IntKind.i64 0) rfl) 1 (Value.slice none 0 0) rfl
            have hXB : Below w.heap.size w X := hX ▸ below_set (below_set HB4.out (Nat.le_refl _)) (Nat.le_refl _)
            clear hX
            gi_wp2_with fail
            have c0 := (blk_cell hXg 0).trans rfl
            have c1 := (blk_cell hXg 1).trans rfl
            have hA := HA.out
            rw [pgo_far (Or.inl (show ¬ 0 ≤ xv from by omega))] at hA
            simp only [Option.some.injEq, Prod.mk.injEq] at hA
            obtain ⟨rfl, rfl, rfl, rfl⟩ := hA
            refine bodyPost_ret (v := .tuple #[.agg #[.int .i64 0, .slice none 0 0], .int .i64 xa, .int .i64 62]) ?_ rfl ⟨_, rfl, Kd.R_nil _ _ _ _ _, hXB⟩
            simp [results, Tryd.f64, go_sem, c0, c1]
        | true =>
          have HUr := Aside0.mk (blk_lt KS.out)
          have HWR := Aside0.mk (show wrap64 (ah + 1) = ah + 1 from by have h := hah.out; unfold wrap64; omega)
          have KN := Aside0.mk (blk_new wr (.cells #[.int .i64 xv, .int .i64 xa, .bool true] 127 (0, 0)))
          have nKD := Aside0.mk (blk_alloc KD.out (.cells #[.int .i64 xv, .int .i64 xa, .bool true] 127 (0, 0))); have nKS := Aside0.mk (blk_alloc KS.out (.cells #[.int .i64 xv, .int .i64 xa, .bool true] 127 (0, 0))); have nHL := Aside0.mk (Kd.R_alloc HL.out (.cells #[.int .i64 xv, .int .i64 xa, .bool true] 127 (0, 0))); have nHW := Aside0.mk (Kd.R_alloc HW.out (.cells #[.int .i64 xv, .int .i64 xa, .bool true] 127 (0, 0))); have nHB := Aside0.mk (below_alloc HB.out (.cells #[.int .i64 xv, .int .i64 xa, .bool true] 127 (0, 0)))
          clear KD KS HL HW HB
          have KD := nKD; have KS := nKS; have HL := nHL; have HW := nHW; have HB := nHB
          clear nKD nKS nHL nHW nHB
          have z0 := (blk_cell KS.out 0).trans rfl; have z1 := (blk_cell KS.out 1).trans rfl; have y0 := (blk_cell KN.out 0).trans rfl; have y1 := (blk_cell KN.out 1).trans rfl; have y2 := (blk_cell KN.out 2).trans rfl
          gi_wp2_with fail
          refine ⟨trivial, ?_⟩; gi_at_call 71
          obtain ⟨Aw, cw, ev, hcw, hCw⟩ := Kd.R_reads HW.out
          injection ev with e1 e2 e3
          subst e1 e3
          have hwl : ws.length = ws0.length := hah.out.1
          rw [← hwl]
          obtain ⟨r, hr⟩ : ∃ r, bitset_within.f (n : Int) ws xv = some r := by
            unfold bitset_within.f
            split <;> exact ⟨_, rfl⟩
          refine (callsIn_wide.2 (bitset_within.calls (n : Int) _ _ ws xv r _ hCw hcw hr)).mono ?_
          rintro e w4 ⟨rfl, hb⟩
          clear z0 z1 y0 y1 y2 q0 q1 q2 hCw e2
          rw [hwl]
          have mKD := Aside0.mk (blk_below KD.out hb)
          have mKS := Aside0.mk (blk_below KS.out hb)
          have mKN := Aside0.mk (blk_below KN.out hb)
          have mHL := Aside0.mk (Kd.R_below HL.out hb)
          have mHW := Aside0.mk (Kd.R_below HW.out hb)
          have mHB := Aside0.mk (below_step HB.out hb)
          clear KD KS KN HL HW HB
          have KD := mKD
          have KS := mKS
          have KN := mKN
          have HL := mHL
          have HW := mHW
          have HB := mHB
          clear mKD mKS mKN mHL mHW mHB
          clear hb
          have y0 := (blk_cell KN.out 0).trans rfl; have y1 := (blk_cell KN.out 1).trans rfl; have y2 := (blk_cell KN.out 2).trans rfl
          by_cases hv0 : 0 ≤ xv
          · by_cases hv1 : xv < (n : Int)
            · obtain rfl : r = true := by
                have h := hr
                unfold bitset_within.f at h
                rw [if_pos (by omega)] at h
                injection h with h
                rw [← h]
                exact decide_eq_true hv1
              by_cases hlt1 : xv < ah + 1
              · have hcmp : decide (xv < wrap64 (ah + 1)) = true := by rw [HWR.out]; exact decide_eq_true hlt1
                gi_wp2_with fail
                clear y0 y1 y2
                have hmx : Tryd.prog.follows .mixedOrders = true := by kernel_rfl
                have KD4 := Aside0.mk (blk_drew KD.out)
                have HB4 := Aside0.mk (below_drew1 HB.out)
                have KN4 := Aside0.mk (blk_drew KN.out)
                have hDN : w.heap.size ≠ wr.heap.size := by have := HUr.out; have := HS3.out; have := HS5.out; omega
                refine wpIn_wide.2 ?_
                refine start_ (n := 6) (S := fun w' => w'.cell? ⟨wr.heap.size, 1, none⟩ = some (.int .i64 xa)) (ds := []) #[false, false, false, false, false, false] hmx (by kernel_rfl) rfl ((blk_cell (blk_drew KN.out) 1).trans rfl) (fun hHeld => ?_)
                generalize World.drew w4 = W4 at KD4 HB4 KN4 hHeld ⊢
                refine pure_ (i := 0) (N := some 66) (v := ?_) (a' := ?_) #[true, false, false, false, false, false] rfl rfl (by kernel_rfl) (fun _ _ _ h => h) (Or.inl ⟨by rfl, ?_⟩) ?_ ?_
                rotate_left
                · intro w'
                  go_simp
                  with_reducible rfl
                rotate_left
                · simp only [Act.put, List.setIfInBounds_toArray, List.set_cons_zero, List.set_cons_succ, i64_w, i32_w]
                  rfl
                refine pure_ (i := 1) (N := some 67) (v := ?_) (a' := ?_) #[true, true, false, false, false, false] rfl rfl (by kernel_rfl) (fun _ _ _ h => h) (Or.inl ⟨by rfl, ?_⟩) ?_ ?_
                rotate_left
                · intro w'
                  go_simp
                  with_reducible rfl
                rotate_left
                · simp only [Act.put, List.setIfInBounds_toArray, List.set_cons_zero, List.set_cons_succ, i64_w, i32_w]
                  rfl
                refine take_ (i := 2) (N := some 68) (v := ?_) (a' := ?_) #[true, true, true, false, false, false] rfl rfl (by kernel_rfl) (fun _ _ _ h => h) (Or.inl ⟨by rfl, ?_⟩) hHeld ?_ ?_
                rotate_left
                · intro w' s0
                  go_simp
                  with_reducible rfl
                rotate_left
                · simp only [Act.put, List.setIfInBounds_toArray, List.set_cons_zero, List.set_cons_succ, i64_w, i32_w]
                  rfl
                refine one_ (i := 3) (N := none) #[true, true, true, true, false, false] rfl rfl (by kernel_rfl) (by decide) (fun K hK => ?_)
                have t0 := (blk_cell KD4.out 0).trans rfl
                have t1 := (blk_cell KD4.out 1).trans rfl
                have f0 := blk_frozen KD4.out 0
                have f1 := blk_frozen KD4.out 1
                refine skip_ (w1 := ?_) (by rfl) rfl ?_ ?_
                rotate_left
                · go_simp
                  rfl
                obtain ⟨X, hX⟩ : ∃ X, (W4.setCell ⟨w.heap.size, 0, none⟩ (.int .i64 0)).setCell ⟨w.heap.size, 1, none⟩ (.slice none 0 0) = X := ⟨_, rfl⟩
                rw [hX]
                refine hK.out _ _ ((blk_cell (hX ▸ blk_far (blk_far KN4.out (fun e => hDN e.symm) _) (fun e => hDN e.symm) _) 1).trans rfl) (fun hHeld => ?_)
                clear hK K t0 t1 f0 f1
                refine pure_ (i := 4) (N := some 3) (v := ?_) (a' := ?_) #[true, true, true, true, true, false] rfl rfl (by kernel_rfl) (fun _ _ _ h => h) (Or.inl ⟨by rfl, ?_⟩) ?_ ?_
                rotate_left
                · intro w'
                  go_simp
                  with_reducible rfl
                rotate_left
                · simp only [Act.put, List.setIfInBounds_toArray, List.set_cons_zero, List.set_cons_succ, i64_w, i32_w]
                  rfl
                refine pure_ (i := 5) (N := some 4) (v := ?_) (a' := ?_) #[true, true, true, true, true, true] rfl rfl (by kernel_rfl) (fun _ _ _ h => h) (Or.inl ⟨by rfl, ?_⟩) ?_ ?_
                rotate_left
                · intro w'
                  go_simp
                  with_reducible rfl
                rotate_left
                · simp only [Act.put, List.setIfInBounds_toArray, List.set_cons_zero, List.set_cons_succ, i64_w, i32_w]
                  rfl
                refine done_ (by kernel_rfl) ?_
                have hXg : X.heap[w.heap.size]? = some (.cells #[.int .i64 0, .slice none 0 0] 24 (0, 0)) := hX ▸ blk_put (blk_put KD4.out 0 (Value.int IntKind.i64 0) rfl) 1 (Value.slice none 0 0) rfl
                have hXB : Below w.heap.size w X := hX ▸ below_set (below_set HB4.out (Nat.le_refl _)) (Nat.le_refl _)
                clear hX
                gi_wp2_with fail
                have c0 := (blk_cell hXg 0).trans rfl
                have c1 := (blk_cell hXg 1).trans rfl
                have hA := HA.out
                rw [pgo_low hv0 hv1 (by simpa using hlt1)] at hA
                simp only [Option.some.injEq, Prod.mk.injEq] at hA
                obtain ⟨rfl, rfl, rfl, rfl⟩ := hA
                refine bodyPost_ret (v := .tuple #[.agg #[.int .i64 0, .slice none 0 0], .int .i64 xa, .int .i64 1]) ?_ rfl ⟨_, rfl, Kd.R_nil _ _ _ _ _, hXB⟩
                simp [results, Tryd.f64, go_sem, c0, c1]
              · have hcmp : decide (xv < wrap64 (ah + 1)) = false := by rw [HWR.out]; exact decide_eq_false hlt1
                gi_wp2_with fail
                clear y0 y1 y2 hcmp
                have hA := HA.out
                rw [pgo_next hv0 hv1 (by simpa using hlt1)] at hA
                simp only [if_true, if_false, Bool.false_eq_true] at hA
                by_cases hf : 0 ≤ ah
                · rw [if_pos hf] at hA
                  obtain ⟨wsF, hF, hA2⟩ := Option.bind_eq_some_iff.1 hA
                  have HA2 := Aside0.mk hA2
                  have HF0 := Aside0.mk hF
                  clear hA hA2 hF HA
                  obtain ⟨Inw, hInw⟩ : ∃ Inw : Act → World → Prop, Inw = (fun a W => ∃ (e : Int) (ws' : List Int) (i11 i12 i44 i45 i46 i47 i48 i49 i50 i51 i52 i53 i54 i55 i56 i57 i61 i62 i63 i64 i65 i69 i70 i71 i72 i73 i74 i75 i76 i77 i78 i79 i80 i81 i82 i83 i84 i85 i86 : Value), a = { tmps := #[.string a0, undef, .pointer (some ⟨w.heap.size, 0, none⟩), .int .i64 0, .int .i64 0, .slice (some ⟨gl, 0, none⟩) (l.length + 1) cl, .int .i64 (-1), .pointer (some ⟨w3.heap.size, 0, none⟩), .int .i64 ah, undef, .pointer (some ⟨wr.heap.size, 0, none⟩), i11, i12, .int .i64 e, .string a0, .int .i64 a0.size, .bool false, undef, .tuple #[.slice (some ⟨gl, 0, none⟩) (l.length + 1) cl, .int .i64 (-1)], .string a0, .tuple #[.slice (some ⟨gl, 0, none⟩) (l.length + 1) cl, .int .i64 (-1)], .slice (some ⟨gl, 0, none⟩) (l.length + 1) cl, .int .i64 (-1), .int .i64 (-1), .bool false, undef, undef, .slice (some ⟨gl, 0, none⟩) (l.length + 1) cl, .pointer (some ⟨gl, 0, none⟩), .pointer (some ⟨gl, 0, none⟩), .int .i64 n, .bool true, .bool false, undef, .slice (some ⟨gl, 0, none⟩) (l.length + 1) cl, .pointer (some ⟨gl, 0, none⟩), .pointer (some ⟨gl, 0, none⟩), .int .i64 n, .agg #[.int .i64 n, .slice As ws0.length cs], .slice (some ⟨gl, 0, none⟩) (l.length + 1) cl, .slice (some ⟨gl, 3, none⟩) l.length (cl - 1), .int .i64 l.length, .int .i64 i, .bool true, i44, i45, i46, i47, i48, i49, i50, i51, i52, i53, i54, i55, i56, i57, undef, undef, undef, i61, i62, i63, i64, i65, undef, undef, undef, i69, i70, i71, i72, i73, i74, i75, i76, i77, i78, i79, i80, i81, i82, i83, i84, i85, i86, undef], defers := [] } ∧ Aside0 (ws'.length = ws0.length ∧ 0 ≤ e) ∧ Aside0 (pfill (n : Int) xv (xv + 1 - e).toNat e ws' = some wsF) ∧
                    Aside0 (W.heap[wr.heap.size]? = some (.cells #[.int .i64 xv, .int .i64 xa, .bool true] 127 (0, 0))) ∧ Aside0 (W.heap[w.heap.size]? = some (.cells #[.int .i64 0, .slice none 0 0] 24 (0, 0))) ∧ Aside0 (W.heap[w3.heap.size]? = some (.cells #[.int .i64 n, .slice As ws0.length cs] 24 (0, 0))) ∧
                Aside0 (Kd.R k127 127 W w.heap.size (fun k_ => w.heap.size + 1 ≤ k_ ∧ k_ < w1.heap.size) (.slice (some ⟨gl, 0, none⟩) (x0 :: l).length cl) (x0 :: l)) ∧ Aside0 (Kd.R (Kd.int .u64) 87 W w.heap.size (fun k_ => w1.heap.size ≤ k_ ∧ k_ < w3.heap.size) (.slice As ws0.length cs) ws') ∧ Aside0 (Below w.heap.size w W)) := ⟨_, rfl⟩
                  refine wpIn_loop Inw (fun a _ => (xv + 1 - intOf (a.tmps.getD 13 undef)).toNat) ?start ?round
                  case start =>
                    rw [hInw]
                    exact ⟨ah, ws, _, _, _, _, _, _, _, _, _, _, _, _, _, _, _, _, _, _, _, _, _, _, _, _, _, _, _, _, _, _, _, _, _, _, _, _, _, _, _, rfl, ⟨hwl, hf⟩, HF0, KN, KD, KS, HL, HW, HB⟩
                  case round =>
                    intro a wx hI
                    rw [hInw] at hI
                    have HInw := Aside0.mk hInw
                    clear hInw KN KD KS HL HW HB HF0
                    obtain ⟨e, ws', i11, i12, i44, i45, i46, i47, i48, i49, i50, i51, i52, i53, i54, i55, i56, i57, i61, i62, i63, i64, i65, i69, i70, i71, i72, i73, i74, i75, i76, i77, i78, i79, i80, i81, i82, i83, i84, i85, i86, rfl, he, HF, KN, KD, KS, HL, HW, HB⟩ := hI
                    have y0 := (blk_cell KN.out 0).trans rfl; have y1 := (blk_cell KN.out 1).trans rfl; have y2 := (blk_cell KN.out 2).trans rfl
                    have z0 := (blk_cell KS.out 0).trans rfl; have z1 := (blk_cell KS.out 1).trans rfl
                    by_cases hle : e ≤ xv
                    · have hd2 : decide (e ≤ xv) = true := decide_eq_true hle
                      have hF := HF.out
                      rw [show (xv + 1 - e).toNat = (xv + 1 - (e + 1)).toNat + 1 from by omega, pfill, if_pos hle] at hF
                      obtain ⟨wp, hp, hF2⟩ := Option.bind_eq_some_iff.1 hF
                      have HP := Aside0.mk hp
                      have HF2 := Aside0.mk hF2
                      have hpl := put_len hp
                      clear hF hF2 hp HF
                      have HWE := Aside0.mk (show wrap64 (e + 1) = e + 1 from by have h := he.out; unfold wrap64; omega)
                      gi_wp2_with fail
                      refine ⟨trivial, ?_⟩; gi_at_call 72
                      refine (callsIn_wide.2 (bitset_put.calls (n : Int) (fun k_ => w1.heap.size ≤ k_ ∧ k_ < w3.heap.size) _ ws' e wp w wx HB.out HW.out HP.out)).mono ?_
                      rintro e' w5 ⟨rfl, hR, hb, hk⟩
                      have mKD := Aside0.mk (blk_kept KD.out hk (fun h => absurd (show w1.heap.size ≤ w.heap.size from h.1) (by have := HS3.out; omega)))
                      have mKS := Aside0.mk (blk_kept KS.out hk (fun h => Nat.lt_irrefl _ h.2))
                      have mKN := Aside0.mk (blk_kept KN.out hk (fun h => absurd (show wr.heap.size < w3.heap.size from h.2) (by have := HUr.out; omega)))
                      have mHL := Aside0.mk (Kd.R_kept HL.out hk (fun k_ hk_ e => absurd hk_.2 (by have : w1.heap.size ≤ k_ := e.1; omega)))
                      have mHW := Aside0.mk (Kd.R_reok (ok := fun k_ => w1.heap.size ≤ k_ ∧ k_ < w3.heap.size) rfl hR (fun k_ hk_ => HW.out.1 k_ hk_))
                      have mHB := Aside0.mk hb
                      clear KD KS KN HL HW HB hR hb hk y0 y1 y2 z0 z1
                      gi_wp2_with fail
                      rw [HWE.out, HInw.out]
                      refine ⟨⟨e + 1, wp, _, _, _, _, _, _, _, _, _, _, _, _, _, _, _, _, _, _, _, _, _, _, _, _, _, _, _, _, _, _, _, _, _, _, _, _, _, _, _, rfl, ⟨by rw [hpl]; exact he.out.1, by have := he.out; omega⟩, HF2, mKN, mKD, mKS, mHL, mHW, mHB⟩, ?_⟩
                      show (xv + 1 - intOf (.int .i64 (e + 1))).toNat < (xv + 1 - intOf (.int .i64 e)).toNat
                      simp only [intOf]
                      omega
                    · have hd2 : decide (e ≤ xv) = false := decide_eq_false hle
                      have hF := HF.out
                      rw [show (xv + 1 - e).toNat = 0 from by omega, pfill, if_neg hle] at hF
                      injection hF with hF
                      subst hF
                      clear HF
                      gi_wp2_with fail
                      rw [show ((i : Int) + 1) = ((i + 1 : Nat) : Int) from by omega]
                      rw [HInv.out]
                      refine ⟨⟨i + 1, xv, ws', _, _, _, _, _, _, _, _, _, _, _, _, _, _, _, _, _, _, _, _, _, _, _, _, _, _, _, _, _, _, _, _, _, _, _, _, _, _, _, _, _, _, rfl, ⟨hlt⟩, ⟨he.out.1, by omega, by omega⟩, HA2, KD, KS, HL, HW, HB⟩, ?_⟩
                      show l.length - (intOf (.int .i64 ((i + 1 : Nat) : Int))).toNat < l.length - (intOf (.int .i64 (i : Int))).toNat
                      simp only [intOf, Int.toNat_natCast]
                      omega
                · first
                    | exact absurd hv0 hf
                    | (rw [if_neg hf] at hA; cases hA)
            · obtain rfl : r = false := by
                have h := hr
                unfold bitset_within.f at h
                rw [if_pos (by omega)] at h
                injection h with h
                rw [← h]
                exact decide_eq_false hv1
              have hlt1 : True := trivial
              gi_wp2_with fail
              clear y0 y1 y2
              have hmx : Tryd.prog.follows .mixedOrders = true := by kernel_rfl
              have KD4 := Aside0.mk (blk_drew KD.out)
              have HB4 := Aside0.mk (below_drew1 HB.out)
              have KN4 := Aside0.mk (blk_drew KN.out)
              have hDN : w.heap.size ≠ wr.heap.size := by have := HUr.out; have := HS3.out; have := HS5.out; omega
              refine wpIn_wide.2 ?_
              refine start_ (n := 6) (S := fun w' => w'.cell? ⟨wr.heap.size, 1, none⟩ = some (.int .i64 xa)) (ds := []) #[false, false, false, false, false, false] hmx (by kernel_rfl) rfl ((blk_cell (blk_drew KN.out) 1).trans rfl) (fun hHeld => ?_)
              generalize World.drew w4 = W4 at KD4 HB4 KN4 hHeld ⊢
              refine pure_ (i := 0) (N := some 58) (v := ?_) (a' := ?_) #[true, false, false, false, false, false] rfl rfl (by kernel_rfl) (fun _ _ _ h => h) (Or.inl ⟨by rfl, ?_⟩) ?_ ?_
              rotate_left
              · intro w'
                go_simp
                with_reducible rfl
              rotate_left
              · simp only [Act.put, List.setIfInBounds_toArray, List.set_cons_zero, List.set_cons_succ, i64_w, i32_w]
                rfl
              refine pure_ (i := 1) (N := some 59) (v := ?_) (a' := ?_) #[true, true, false, false, false, false] rfl rfl (by kernel_rfl) (fun _ _ _ h => h) (Or.inl ⟨by rfl, ?_⟩) ?_ ?_
              rotate_left
              · intro w'
                go_simp
                with_reducible rfl
              rotate_left
              · simp only [Act.put, List.setIfInBounds_toArray, List.set_cons_zero, List.set_cons_succ, i64_w, i32_w]
                rfl
              refine take_ (i := 2) (N := some 60) (v := ?_) (a' := ?_) #[true, true, true, false, false, false] rfl rfl (by kernel_rfl) (fun _ _ _ h => h) (Or.inl ⟨by rfl, ?_⟩) hHeld ?_ ?_
              rotate_left
              · intro w' s0
                go_simp
                with_reducible rfl
              rotate_left
              · simp only [Act.put, List.setIfInBounds_toArray, List.set_cons_zero, List.set_cons_succ, i64_w, i32_w]
                rfl
              refine one_ (i := 3) (N := none) #[true, true, true, true, false, false] rfl rfl (by kernel_rfl) (by decide) (fun K hK => ?_)
              have t0 := (blk_cell KD4.out 0).trans rfl
              have t1 := (blk_cell KD4.out 1).trans rfl
              have f0 := blk_frozen KD4.out 0
              have f1 := blk_frozen KD4.out 1
              refine skip_ (w1 := ?_) (by rfl) rfl ?_ ?_
              rotate_left
              · go_simp
                rfl
              obtain ⟨X, hX⟩ : ∃ X, (W4.setCell ⟨w.heap.size, 0, none⟩ (.int .i64 0)).setCell ⟨w.heap.size, 1, none⟩ (.slice none 0 0) = X := ⟨_, rfl⟩
              rw [hX]
              refine hK.out _ _ ((blk_cell (hX ▸ blk_far (blk_far KN4.out (fun e => hDN e.symm) _) (fun e => hDN e.symm) _) 1).trans rfl) (fun hHeld => ?_)
              clear hK K t0 t1 f0 f1
              refine pure_ (i := 4) (N := some 3) (v := ?_) (a' := ?_) #[true, true, true, true, true, false] rfl rfl (by kernel_rfl) (fun _ _ _ h => h) (Or.inl ⟨by rfl, ?_⟩) ?_ ?_
              rotate_left
              · intro w'
                go_simp
                with_reducible rfl
              rotate_left
              · simp only [Act.put, List.setIfInBounds_toArray, List.set_cons_zero, List.set_cons_succ, i64_w, i32_w]
                rfl
              refine pure_ (i := 5) (N := some 4) (v := ?_) (a' := ?_) #[true, true, true, true, true, true] rfl rfl (by kernel_rfl) (fun _ _ _ h => h) (Or.inl ⟨by rfl, ?_⟩) ?_ ?_
              rotate_left
              · intro w'
                go_simp
                with_reducible rfl
              rotate_left
              · simp only [Act.put, List.setIfInBounds_toArray, List.set_cons_zero, List.set_cons_succ, i64_w, i32_w]
                rfl
              refine done_ (by kernel_rfl) ?_
              have hXg : X.heap[w.heap.size]? = some (.cells #[.int .i64 0, .slice none 0 0] 24 (0, 0)) := hX ▸ blk_put (blk_put KD4.out 0 (Value.int IntKind.i64 0) rfl) 1 (Value.slice none 0 0) rfl
              have hXB : Below w.heap.size w X := hX ▸ below_set (below_set HB4.out (Nat.le_refl _)) (Nat.le_refl _)
              clear hX
              gi_wp2_with fail
              have c0 := (blk_cell hXg 0).trans rfl
              have c1 := (blk_cell hXg 1).trans rfl
              have hA := HA.out
              rw [pgo_far (Or.inr (show ¬ xv < (n : Int) from by omega))] at hA
              simp only [Option.some.injEq, Prod.mk.injEq] at hA
              obtain ⟨rfl, rfl, rfl, rfl⟩ := hA
              refine bodyPost_ret (v := .tuple #[.agg #[.int .i64 0, .slice none 0 0], .int .i64 xa, .int .i64 62]) ?_ rfl ⟨_, rfl, Kd.R_nil _ _ _ _ _, hXB⟩
              simp [results, Tryd.f64, go_sem, c0, c1]
          · obtain rfl : r = false := by
              have h := hr
              unfold bitset_within.f at h
              rw [if_neg (by omega)] at h
              injection h with h
              exact h.symm
            have hlt1 : True := trivial
            have hv1 : True := trivial
            gi_wp2_with fail
            clear y0 y1 y2
            have hmx : Tryd.prog.follows .mixedOrders = true := by kernel_rfl
            have KD4 := Aside0.mk (blk_drew KD.out)
            have HB4 := Aside0.mk (below_drew1 HB.out)
            have KN4 := Aside0.mk (blk_drew KN.out)
            have hDN : w.heap.size ≠ wr.heap.size := by have := HUr.out; have := HS3.out; have := HS5.out; omega
            refine wpIn_wide.2 ?_
            refine start_ (n := 6) (S := fun w' => w'.cell? ⟨wr.heap.size, 1, none⟩ = some (.int .i64 xa)) (ds := []) #[false, false, false, false, false, false] hmx (by kernel_rfl) rfl ((blk_cell (blk_drew KN.out) 1).trans rfl) (fun hHeld => ?_)
            generalize World.drew w4 = W4 at KD4 HB4 KN4 hHeld ⊢
            refine pure_ (i := 0) (N := some 58) (v := ?_) (a' := ?_) #[true, false, false, false, false, false] rfl rfl (by kernel_rfl) (fun _ _ _ h => h) (Or.inl ⟨by rfl, ?_⟩) ?_ ?_
            rotate_left
            · intro w'
              go_simp
              with_reducible rfl
            rotate_left
            · simp only [Act.put, List.setIfInBounds_toArray, List.set_cons_zero, List.set_cons_succ, i64_w, i32_w]
              rfl
            refine pure_ (i := 1) (N := some 59) (v := ?_) (a' := ?_) #[true, true, false, false, false, false] rfl rfl (by kernel_rfl) (fun _ _ _ h => h) (Or.inl ⟨by rfl, ?_⟩) ?_ ?_
            rotate_left
            · intro w'
              go_simp
              with_reducible rfl
            rotate_left
            · simp only [Act.put, List.setIfInBounds_toArray, List.set_cons_zero, List.set_cons_succ, i64_w, i32_w]
              rfl
            refine take_ (i := 2) (N := some 60) (v := ?_) (a' := ?_) #[true, true, true, false, false, false] rfl rfl (by kernel_rfl) (fun _ _ _ h => h) (Or.inl ⟨by rfl, ?_⟩) hHeld ?_ ?_
            rotate_left
            · intro w' s0
              go_simp
              with_reducible rfl
            rotate_left
            · simp only [Act.put, List.setIfInBounds_toArray, List.set_cons_zero, List.set_cons_succ, i64_w, i32_w]
              rfl
            refine one_ (i := 3) (N := none) #[true, true, true, true, false, false] rfl rfl (by kernel_rfl) (by decide) (fun K hK => ?_)
            have t0 := (blk_cell KD4.out 0).trans rfl
            have t1 := (blk_cell KD4.out 1).trans rfl
            have f0 := blk_frozen KD4.out 0
            have f1 := blk_frozen KD4.out 1
            refine skip_ (w1 := ?_) (by rfl) rfl ?_ ?_
            rotate_left
            · go_simp
              rfl
            obtain ⟨X, hX⟩ : ∃ X, (W4.setCell ⟨w.heap.size, 0, none⟩ (.int .i64 0)).setCell ⟨w.heap.size, 1, none⟩ (.slice none 0 0) = X := ⟨_, rfl⟩
            rw [hX]
            refine hK.out _ _ ((blk_cell (hX ▸ blk_far (blk_far KN4.out (fun e => hDN e.symm) _) (fun e => hDN e.symm) _) 1).trans rfl) (fun hHeld => ?_)
            clear hK K t0 t1 f0 f1
            refine pure_ (i := 4) (N := some 3) (v := ?_) (a' := ?_) #[true, true, true, true, true, false] rfl rfl (by kernel_rfl) (fun _ _ _ h => h) (Or.inl ⟨by rfl, ?_⟩) ?_ ?_
            rotate_left
            · intro w'
              go_simp
              with_reducible rfl
            rotate_left
            · simp only [Act.put, List.setIfInBounds_toArray, List.set_cons_zero, List.set_cons_succ, i64_w, i32_w]
              rfl
            refine pure_ (i := 5) (N := some 4) (v := ?_) (a' := ?_) #[true, true, true, true, true, true] rfl rfl (by kernel_rfl) (fun _ _ _ h => h) (Or.inl ⟨by rfl, ?_⟩) ?_ ?_
            rotate_left
            · intro w'
              go_simp
              with_reducible rfl
            rotate_left
            · simp only [Act.put, List.setIfInBounds_toArray, List.set_cons_zero, List.set_cons_succ, i64_w, i32_w]
              rfl
            refine done_ (by kernel_rfl) ?_
            have hXg : X.heap[w.heap.size]? = some (.cells #[.int .i64 0, .slice none 0 0] 24 (0, 0)) := hX ▸ blk_put (blk_put KD4.out 0 (Value.int IntKind.i64 0) rfl) 1 (Value.slice none 0 0) rfl
            have hXB : Below w.heap.size w X := hX ▸ below_set (below_set HB4.out (Nat.le_refl _)) (Nat.le_refl _)
            clear hX
            gi_wp2_with fail
            have c0 := (blk_cell hXg 0).trans rfl
            have c1 := (blk_cell hXg 1).trans rfl
            have hA := HA.out
            rw [pgo_far (Or.inl (show ¬ 0 ≤ xv from by omega))] at hA
            simp only [Option.some.injEq, Prod.mk.injEq] at hA
            obtain ⟨rfl, rfl, rfl, rfl⟩ := hA
            refine bodyPost_ret (v := .tuple #[.agg #[.int .i64 0, .slice none 0 0], .int .i64 xa, .int .i64 62]) ?_ rfl ⟨_, rfl, Kd.R_nil _ _ _ _ _, hXB⟩
            simp [results, Tryd.f64, go_sem, c0, c1]
      · have hie : i = l.length := by have := hi.out; omega
        subst hie
        have hd : decide (l.length < l.length) = false := by simp
        have hA := HA.out
        rw [List.drop_length] at hA
        simp only [pgo, Option.some.injEq, Prod.mk.injEq] at hA
        clear HA
        have HA0 := Aside0.mk hA
        clear hA
        have q0 := (blk_cell KS.out 0).trans rfl
        have q1 := (blk_cell KS.out 1).trans rfl
        have q2 := (blk_cell KD.out 0).trans rfl
        have q3 := (blk_cell KD.out 1).trans rfl
        have z0 := blk_frozen KD.out 0
        have z1 := blk_frozen KD.out 1
        gi_wp2_with fail
        obtain ⟨X, hX⟩ : ∃ X, (wr.setCell ⟨w.heap.size, 0, none⟩ (Value.int IntKind.i64 n)).setCell ⟨w.heap.size, 1, none⟩ (Value.slice As ws0.length cs) = X := ⟨_, rfl⟩
        have hKX : Kept wr X (fun k_ => k_ = w.heap.size) := by
          refine ⟨by rw [← hX, World.size_setCell, World.size_setCell]; exact Nat.le_refl _, fun k_ hk_ hn_ => ?_⟩
          rw [← hX, Below.heap_setCell _ _ _ _ hn_, Below.heap_setCell _ _ _ _ hn_]
        have hXg : X.heap[w.heap.size]? = some (.cells #[.int .i64 n, .slice As ws0.length cs] 24 (0, 0)) := hX ▸ blk_put (blk_put KD.out 0 (Value.int IntKind.i64 n) rfl) 1 (Value.slice As ws0.length cs) rfl
        have hXB : Below w.heap.size w X := hX ▸ below_set (below_set HB.out (Nat.le_refl _)) (Nat.le_refl _)
        have hXS := Kd.R_kept HW.out hKX (fun k_ hk_ e => absurd hk_.1 (by have := HS3.out; have : k_ = w.heap.size := e; omega))
        subst hX
        have c0 := (blk_cell hXg 0).trans rfl
        have c1 := (blk_cell hXg 1).trans rfl
        obtain ⟨rfl, rfl, rfl, rfl⟩ := HA0.out
        refine bodyPost_ret (v := .tuple #[.agg #[.int .i64 n, .slice As ws0.length cs], .int .i64 0, .int .i64 0]) ?_ rfl ⟨_, rfl, Kd.R_mono hXS (fun _ _ => trivial), hXB⟩
        simp [results, Tryd.f64, go_sem, c0, c1]
end Go.Proofs.YtjmkhdhffmlhiaaDoor.PAll
end
section
namespace Go.Proofs.YtjmkhdhffmlhiaaDoor.PAll
set_option linter.unusedVariables false
set_option linter.unusedSimpArgs false
open Go.RowKit Go.Proofs.YtjmkhdhffmlhiaaDoorW.PrintWords Go.Proofs.YtjmkhdhffmlhiaaDoorW.PrintLast Go.Proofs.YtjmkhdhffmlhiaaDoorW.PrintMore
attribute [local go_sem] Oper.semAt_some
set_option maxHeartbeats 8000000 in
set_option maxRecDepth 100000 in
theorem Parse_long (a0 : ByteArray) (w : World) (hsz : (65536 : Int) < (a0.size : Int)) :
    Calls Tryd.prog 64 #[.string a0] w fun e w' => ∃ v : Value, e = .returned (.tuple #[.agg #[.int .i64 0, v], .int .i64 65536, .int .i64 4]) ∧ Kd.R (Kd.int .u64) 87 w' w.heap.size (fun _ => True) v [] ∧ Below w.heap.size w w' := by
  have hu24 := Tryd.underlying24
  have hu95 := Tryd.underlying127
  obtain ⟨o2, ho2⟩ : ∃ o2 : Obj, o2 = .cells #[.int .i64 0, .slice none 0 0] 24 (0, 0) := ⟨_, rfl⟩
  have K1 : (w.alloc o2).heap[w.heap.size]? = some o2 := blk_new w o2
  have HB0 : Below w.heap.size w (w.alloc o2) := below_alloc (Below.refl _ _) _
  rw [ho2] at K1 HB0
  clear ho2 o2
  have KD := Aside0.mk K1
  have HB := Aside0.mk HB0
  clear K1 HB0
  refine (callsIn_wide (n := 6)).1 ?_
  refine callsIn_of_wp Tryd.func64 rfl trivial ?_ rfl
  simp only [Tryd.ntmps64, List.size_toArray, List.length_cons, List.length_nil, Nat.reduceAdd, Nat.reduceSub, Array.replicate_succ, Array.replicate_zero, List.push_toArray, List.append_toArray, List.nil_append, List.cons_append]
  have hgd : decide ((65536 : Int) < (a0.size : Int)) = true := decide_eq_true hsz
  have q2 := (blk_cell KD.out 0).trans rfl
  have q3 := (blk_cell KD.out 1).trans rfl
  have z0 := blk_frozen KD.out 0
  have z1 := blk_frozen KD.out 1
  gi_wp2_with fail
  refine bodyPost_ret (v := .tuple #[.agg #[.int .i64 0, .slice none 0 0], .int .i64 65536, .int .i64 4]) ?_ rfl ⟨_, rfl, Kd.R_nil _ _ _ _ _, HB.out⟩
  simp [results, Tryd.f64, go_sem, q2, q3]
set_option maxHeartbeats 8000000 in
set_option maxRecDepth 100000 in
theorem Parse_digit (a0 : ByteArray) (w : World) (kn : Nat) (l : List S127) (q : Int) (hsz : (a0.size : Int) ≤ 65536) (hl : bitset_numbers.f kn a0 = some (l, q)) (hq : 0 ≤ q) :
    Calls Tryd.prog 64 #[.string a0] w fun e w' => ∃ v : Value, e = .returned (.tuple #[.agg #[.int .i64 0, v], .int .i64 q, .int .i64 5]) ∧ Kd.R (Kd.int .u64) 87 w' w.heap.size (fun _ => True) v [] ∧ Below w.heap.size w w' := by
  have hu24 := Tryd.underlying24
  have hu95 := Tryd.underlying127
  have HL0 := Aside0.mk hl
  clear hl
  obtain ⟨o2, ho2⟩ : ∃ o2 : Obj, o2 = .cells #[.int .i64 0, .slice none 0 0] 24 (0, 0) := ⟨_, rfl⟩
  have K1 : (w.alloc o2).heap[w.heap.size]? = some o2 := blk_new w o2
  have HB0 : Below w.heap.size w (w.alloc o2) := below_alloc (Below.refl _ _) _
  rw [ho2] at K1 HB0
  clear ho2 o2
  have KD := Aside0.mk K1
  have HB := Aside0.mk HB0
  clear K1 HB0
  refine (callsIn_wide (n := 6)).1 ?_
  refine callsIn_of_wp Tryd.func64 rfl trivial ?_ rfl
  simp only [Tryd.ntmps64, List.size_toArray, List.length_cons, List.length_nil, Nat.reduceAdd, Nat.reduceSub, Array.replicate_succ, Array.replicate_zero, List.push_toArray, List.append_toArray, List.nil_append, List.cons_append]
  have hgt : ¬ ((65536 : Int) < (a0.size : Int)) := by omega
  have hgd : decide ((65536 : Int) < (a0.size : Int)) = false := decide_eq_false hgt
  gi_wp2_with fail
  refine ⟨trivial, ?_⟩; gi_at_call 106
  refine (callsIn_wide.2 (bitset_numbers.calls kn a0 l q _ HL0.out)).mono ?_
  rintro e w1 ⟨vl, rfl, ho, hb⟩
  obtain ⟨Al, cl, et⟩ := Kd.R_slice ho
  subst et
  have mKD := Aside0.mk (blk_below KD.out hb); have mHB := Aside0.mk (below_step HB.out hb)
  clear KD HB hb
  have KD := mKD; have HB := mHB
  clear mKD mHB
  have hqd : decide (0 ≤ q) = true := decide_eq_true hq
  have q2 := (blk_cell KD.out 0).trans rfl
  have q3 := (blk_cell KD.out 1).trans rfl
  have z0 := blk_frozen KD.out 0
  have z1 := blk_frozen KD.out 1
  gi_wp2_with fail
  obtain ⟨X, hX⟩ : ∃ X, (w1.setCell ⟨w.heap.size, 0, none⟩ (.int .i64 0)).setCell ⟨w.heap.size, 1, none⟩ (.slice none 0 0) = X := ⟨_, rfl⟩
  have hXg : X.heap[w.heap.size]? = some (.cells #[.int .i64 0, .slice none 0 0] 24 (0, 0)) := hX ▸ blk_put (blk_put KD.out 0 (Value.int IntKind.i64 0) rfl) 1 (Value.slice none 0 0) rfl
  have hXB : Below w.heap.size w X := hX ▸ below_set (below_set HB.out (Nat.le_refl _)) (Nat.le_refl _)
  subst hX
  have c0 := (blk_cell hXg 0).trans rfl
  have c1 := (blk_cell hXg 1).trans rfl
  refine bodyPost_ret (v := .tuple #[.agg #[.int .i64 0, .slice none 0 0], .int .i64 q, .int .i64 5]) ?_ rfl ⟨_, rfl, Kd.R_nil _ _ _ _ _, hXB⟩
  simp [results, Tryd.f64, go_sem, c0, c1]
set_option maxHeartbeats 8000000 in
set_option maxRecDepth 100000 in
theorem Parse_wide (a0 : ByteArray) (w : World) (kn : Nat) (x0 : S127) (l : List S127) (hsz : (a0.size : Int) ≤ 65536) (hl : bitset_numbers.f kn a0 = some (x0 :: l, -1)) (hS : bitset_sized.f x0.f0 = some false) :
    Calls Tryd.prog 64 #[.string a0] w fun e w' => ∃ v : Value, e = .returned (.tuple #[.agg #[.int .i64 0, v], .int .i64 0, .int .i64 60]) ∧ Kd.R (Kd.int .u64) 87 w' w.heap.size (fun _ => True) v [] ∧ Below w.heap.size w w' := by
  have hu24 := Tryd.underlying24
  have hu95 := Tryd.underlying127
  have HL0 := Aside0.mk hl
  have HS0 := Aside0.mk hS
  clear hl hS
  obtain ⟨o2, ho2⟩ : ∃ o2 : Obj, o2 = .cells #[.int .i64 0, .slice none 0 0] 24 (0, 0) := ⟨_, rfl⟩
  have K1 : (w.alloc o2).heap[w.heap.size]? = some o2 := blk_new w o2
  have HB0 : Below w.heap.size w (w.alloc o2) := below_alloc (Below.refl _ _) _
  rw [ho2] at K1 HB0
  clear ho2 o2
  have KD := Aside0.mk K1
  have HB := Aside0.mk HB0
  clear K1 HB0
  refine (callsIn_wide (n := 6)).1 ?_
  refine callsIn_of_wp Tryd.func64 rfl trivial ?_ rfl
  simp only [Tryd.ntmps64, List.size_toArray, List.length_cons, List.length_nil, Nat.reduceAdd, Nat.reduceSub, Array.replicate_succ, Array.replicate_zero, List.push_toArray, List.append_toArray, List.nil_append, List.cons_append]
  have hgt : ¬ ((65536 : Int) < (a0.size : Int)) := by omega
  have hgd : decide ((65536 : Int) < (a0.size : Int)) = false := decide_eq_false hgt
  gi_wp2_with fail
  refine ⟨trivial, ?_⟩; gi_at_call 106
  refine (callsIn_wide.2 (bitset_numbers.calls kn a0 (x0 :: l) (-1) _ HL0.out)).mono ?_
  rintro e w1 ⟨vl, rfl, ho, hb⟩
  obtain ⟨Al, cl, et⟩ := Kd.R_slice ho
  subst et
  obtain ⟨Al', cl', ev, hcl, hCl⟩ := Kd.R_reads ho
  injection ev with e1 e2 e3
  subst e1 e3
  clear e2
  obtain ⟨ad, eA, q0, q1, q2⟩ := at_T127 hCl 0 (by omega) (by simp only [List.length_cons]; omega)
  subst eA
  obtain ⟨gl, rfl⟩ := Kd.R_head ho
  have hrd : rd_T127 (x0 :: l) 0 = x0 := rfl
  rw [hrd] at q0
  replace q0 := (show w1.cell? ⟨gl, 0, none⟩ = some (.int .i64 x0.f0) from q0)
  clear q1 q2 hCl ho
  have mKD := Aside0.mk (blk_below KD.out hb); have mHB := Aside0.mk (below_step HB.out hb)
  clear KD HB hb
  have KD := mKD; have HB := mHB
  clear mKD mHB
  gi_wp2_with fail
  refine ⟨trivial, ?_⟩; gi_at_call 76
  refine (callsIn_wide.2 (bitset_sized.calls x0.f0 false _ HS0.out)).mono ?_
  rintro e w2 ⟨rfl, hd⟩
  have hb := hd.below
  clear q0 hd
  have mKD := Aside0.mk (blk_below KD.out hb); have mHB := Aside0.mk (below_step HB.out hb)
  clear KD HB hb
  have KD := mKD; have HB := mHB
  clear mKD mHB
  have q2 := (blk_cell KD.out 0).trans rfl
  have q3 := (blk_cell KD.out 1).trans rfl
  have z0 := blk_frozen KD.out 0
  have z1 := blk_frozen KD.out 1
  gi_wp2_with fail
  obtain ⟨X, hX⟩ : ∃ X, (w2.setCell ⟨w.heap.size, 0, none⟩ (.int .i64 0)).setCell ⟨w.heap.size, 1, none⟩ (.slice none 0 0) = X := ⟨_, rfl⟩
  have hXg : X.heap[w.heap.size]? = some (.cells #[.int .i64 0, .slice none 0 0] 24 (0, 0)) := hX ▸ blk_put (blk_put KD.out 0 (Value.int IntKind.i64 0) rfl) 1 (Value.slice none 0 0) rfl
  have hXB : Below w.heap.size w X := hX ▸ below_set (below_set HB.out (Nat.le_refl _)) (Nat.le_refl _)
  subst hX
  have c0 := (blk_cell hXg 0).trans rfl
  have c1 := (blk_cell hXg 1).trans rfl
  refine bodyPost_ret (v := .tuple #[.agg #[.int .i64 0, .slice none 0 0], .int .i64 0, .int .i64 60]) ?_ rfl ⟨_, rfl, Kd.R_nil _ _ _ _ _, hXB⟩
  simp [results, Tryd.f64, go_sem, c0, c1]
end Go.Proofs.YtjmkhdhffmlhiaaDoor.PAll
end
section
namespace Go.Proofs.YtjmkhdhffmlhiaaDoor.PAll
set_option linter.unusedVariables false
set_option linter.unusedSimpArgs false
open Go.RowKit Go.Proofs.YtjmkhdhffmlhiaaDoorW.PrintWords Go.Proofs.YtjmkhdhffmlhiaaDoorW.PrintLast Go.Proofs.YtjmkhdhffmlhiaaDoorW.PrintMore
def isD (t : ByteArray) (i : Nat) : Prop := i < t.size ∧ 48 ≤ bt t (i : Int) ∧ bt t (i : Int) ≤ 57
instance (t : ByteArray) (i : Nat) : Decidable (isD t i) := by unfold isD; exact inferInstance
def dgo (t : ByteArray) (s : Nat) : Nat → Nat → Int → Int × Nat
  | 0, i, v => (v, i)
  | f + 1, i, v =>
    if isD t i then
      if i = s ∧ bt t (s : Int) = 48 then (mn (v * 10 + (bt t (i : Int) - 48)) 1048576, i + 1)
      else dgo t s f (i + 1) (mn (v * 10 + (bt t (i : Int) - 48)) 1048576)
    else (v, i)
theorem mn_le (a : Int) : mn a 1048576 ≤ 1048576 := by unfold mn; split <;> omega
theorem mn_nn {a : Int} (h : 0 ≤ a) : 0 ≤ mn a 1048576 := by unfold mn; split <;> omega
theorem digits_l0 (t : ByteArray) (hsz : t.size ≤ 65536) (s : Nat) : ∀ (f i : Nat) (v : Int), s ≤ i → i ≤ t.size → t.size - i < f → 0 ≤ v → v ≤ 1048576 → ∀ k, 2 * f ≤ k →
    bitset_digits.l0 k t (s : Int) (i : Int) v (s : Int) false = some ((dgo t s f i v).1, (s : Int), false, ((dgo t s f i v).2 : Int), decide (((dgo t s f i v).2 : Int) > (s : Int)))
  | 0, i, v, _, _, h, _, _, _, _ => absurd h (Nat.not_lt_zero _)
  | f + 1, i, v, h1, h2, h3, h4, h5, k, hk => by
    obtain ⟨k, rfl⟩ : ∃ k', k = k' + 2 := ⟨k - 2, by omega⟩
    have hw : wrap64 ((i : Int) + 1) = ((i + 1 : Nat) : Int) := by unfold wrap64; omega
    have hs : wrap64 ((s : Int) + 1) = ((s + 1 : Nat) : Int) := by unfold wrap64; omega
    unfold dgo
    rw [show k + 2 = (k + 1) + 1 from rfl, bitset_digits.l0]
    by_cases hd : isD t i
    · obtain ⟨d1, d2, d3⟩ := id hd
      have hv : wrap64 (wrap64 (v * 10) + ((bt t (i : Int) - 48) % 256)) = v * 10 + (bt t (i : Int) - 48) := by unfold wrap64; omega
      rw [if_pos hd, if_pos (by omega), if_pos (by omega), if_pos (by omega), decide_eq_true d3, bitset_digits.j1, if_pos rfl, if_pos (by omega), if_pos (by omega), hw, hs, hv]
      by_cases he : i = s
      · subst he
        rw [if_pos rfl, if_pos (by omega), if_pos (by omega)]
        by_cases h0 : bt t (i : Int) = 48
        · rw [if_pos h0, if_pos ⟨rfl, h0⟩]
        · rw [if_neg h0, if_neg (fun h => h0 h.2)]
          exact digits_l0 t hsz i f (i + 1) _ (by omega) (by omega) (by omega) (mn_nn (by omega)) (mn_le _) k (by omega)
      · rw [if_neg (by omega), if_neg (fun h => he h.1)]
        exact digits_l0 t hsz s f (i + 1) _ (by omega) (by omega) (by omega) (mn_nn (by omega)) (mn_le _) k (by omega)
    · rw [if_neg hd]
      have hj : bitset_digits.j1 (k + 1) t (s : Int) (i : Int) false v (s : Int) false = some (v, (s : Int), false, (i : Int), decide ((i : Int) > (s : Int))) := by
        rw [bitset_digits.j1]; simp
      by_cases hl : i < t.size
      · rw [if_pos (by omega), if_pos (by omega)]
        by_cases h8 : bt t (i : Int) ≥ 48
        · have h9 : ¬ bt t (i : Int) ≤ 57 := fun h => hd ⟨hl, h8, h⟩
          rw [if_pos h8, decide_eq_false h9, hj]
        · rw [if_neg h8, hj]
      · rw [if_neg (by omega), hj]
def dend (t : ByteArray) (s : Nat) : Nat := (dgo t s (t.size - s + 1) s 0).2
def dnum (t : ByteArray) (s : Nat) : Int := (dgo t s (t.size - s + 1) s 0).1
theorem digits_f (t : ByteArray) (hsz : t.size ≤ 65536) (s : Nat) (h : s ≤ t.size) (k : Nat) (hk : 2 * (t.size + 1) ≤ k) : bitset_digits.f k t (s : Int) = some (dnum t s, (s : Int), false, (dend t s : Int), decide ((dend t s : Int) > (s : Int))) := by
  unfold bitset_digits.f
  exact digits_l0 t hsz s _ s 0 (Nat.le_refl _) h (by omega) (by omega) (by omega) k (by omega)
theorem dgo_end (t : ByteArray) (s : Nat) : ∀ (f i : Nat) (v : Int), i ≤ t.size → i ≤ (dgo t s f i v).2 ∧ (dgo t s f i v).2 ≤ t.size
  | 0, i, v, h => ⟨Nat.le_refl _, h⟩
  | f + 1, i, v, h => by
    unfold dgo
    split
    · rename_i hd
      have := hd.1
      split
      · exact ⟨Nat.le_succ _, this⟩
      · have h2 := dgo_end t s f (i + 1) (mn (v * 10 + (bt t (i : Int) - 48)) 1048576) this
        exact ⟨by omega, h2.2⟩
    · exact ⟨Nat.le_refl _, h⟩
theorem dend_le {t : ByteArray} {s : Nat} (h : s ≤ t.size) : s ≤ dend t s ∧ dend t s ≤ t.size := dgo_end t s _ s 0 h
end Go.Proofs.YtjmkhdhffmlhiaaDoor.PAll
end
section
namespace Go.Proofs.YtjmkhdhffmlhiaaDoor.PAll
set_option linter.unusedVariables false
set_option linter.unusedSimpArgs false
open Go.RowKit Go.Proofs.YtjmkhdhffmlhiaaDoorW.PrintWords Go.Proofs.YtjmkhdhffmlhiaaDoorW.PrintLast Go.Proofs.YtjmkhdhffmlhiaaDoorW.PrintMore
def lastAt (t : ByteArray) (l : List S127) (i : Nat) : Bool := decide (1 < l.length) && (bt t ((i : Int) - 1) == 45)
def ngo (t : ByteArray) : Nat → List S127 → Nat → List S127 × Int
  | 0, _, i => ([], (i : Int))
  | f + 1, l, i =>
    if i < t.size ∨ 1 < l.length then
      if i < dend t i then
        if dend t i = t.size then (l ++ [⟨dnum t i, (i : Int), lastAt t l i⟩], -1)
        else if bt t (dend t i : Int) = 44 ∨ (bt t (dend t i : Int) = 45 ∧ lastAt t l i = false) then ngo t f (l ++ [⟨dnum t i, (i : Int), lastAt t l i⟩]) (dend t i + 1)
        else ([], (dend t i : Int))
      else ([], (dend t i : Int))
    else (l, -1)
theorem numbers_l0 (t : ByteArray) (hsz : t.size ≤ 65536) : ∀ (f : Nat) (l : List S127) (i : Nat), 1 ≤ i → i ≤ t.size → t.size - i < f → l.length ≤ i → ∀ k, 3 * f + 2 * (t.size + 1) ≤ k →
    bitset_numbers.l0 k t l (i : Int) = some (ngo t f l i)
  | 0, l, i, _, _, h, _, _, _ => absurd h (Nat.not_lt_zero _)
  | f + 1, l, i, h1, h2, h3, h4, k, hk => by
    obtain ⟨k, rfl⟩ : ∃ k', k = k' + 3 := ⟨k - 3, by omega⟩
    have hle := dend_le h2
    have hw : wrap64 ((i : Int) - 1) = (i : Int) - 1 := by unfold wrap64; omega
    have hwe : wrap64 ((dend t i : Int) + 1) = ((dend t i + 1 : Nat) : Int) := by unfold wrap64; omega
    have j3 : ∀ b : Bool, b = lastAt t l i → (i < t.size ∨ 1 < l.length) → bitset_numbers.j3 (k + 1) t l (i : Int) b = some (ngo t (f + 1) l i) := by
      intro b hb hc
      rw [bitset_numbers.j3, digits_f t hsz i h2 k (by omega), Option.bind_some]
      simp only
      unfold ngo
      rw [if_pos hc]
      by_cases he : i < dend t i
      · rw [if_pos he, if_pos (by simpa using he), if_pos (by omega), Option.bind_some, ← hb]
        by_cases hz : dend t i = t.size
        · rw [if_pos (by omega), if_pos hz]
        · rw [if_neg (by omega), if_neg hz, if_pos (by omega), if_pos (by omega)]
          have ih := numbers_l0 t hsz f (l ++ [⟨dnum t i, (i : Int), b⟩]) (dend t i + 1) (by omega) (by omega) (by omega) (by simp only [List.length_append, List.length_cons, List.length_nil]; omega) k (by omega)
          by_cases h44 : bt t (dend t i : Int) = 44
          · rw [if_pos h44, if_pos (Or.inl h44), hwe, ih]
          · rw [if_neg h44]
            by_cases h45 : bt t (dend t i : Int) = 45
            · rw [if_pos h45]
              cases b with
              | true => rw [if_pos rfl, if_neg (by simp [h44])]
              | false => rw [if_neg (by decide), if_pos (Or.inr ⟨h45, rfl⟩), hwe, ih]
            · rw [if_neg h45, if_neg (by simp [h44, h45])]
      · rw [if_neg he, if_neg (by simpa using he)]
    rw [show k + 3 = (k + 2) + 1 from rfl, bitset_numbers.l0]
    by_cases hc : i < t.size ∨ 1 < l.length
    · have hj2 : bitset_numbers.j2 (k + 2) t l (i : Int) true = some (ngo t (f + 1) l i) := by
        rw [show k + 2 = (k + 1) + 1 from rfl, bitset_numbers.j2, if_pos rfl]
        by_cases hl : 1 < l.length
        · rw [if_pos (by omega), hw, if_pos (by omega), if_pos (by omega)]
          exact j3 _ (by unfold lastAt; rw [decide_eq_true hl, Bool.true_and]) hc
        · rw [if_neg (by omega)]
          exact j3 _ (by unfold lastAt; rw [decide_eq_false hl, Bool.false_and]) hc
      by_cases hi : i < t.size
      · rw [if_pos (by omega), hj2]
      · have hl : 1 < l.length := by omega
        rw [if_neg (by omega), decide_eq_true (show (l.length : Int) > 1 by omega), hj2]
    · have hi : ¬ i < t.size := fun h => hc (Or.inl h)
      have hl : ¬ 1 < l.length := fun h => hc (Or.inr h)
      rw [if_neg (by omega), decide_eq_false (show ¬ (l.length : Int) > 1 by omega), show k + 2 = (k + 1) + 1 from rfl, bitset_numbers.j2, if_neg (by decide)]
      unfold ngo
      rw [if_neg hc]
def nums (t : ByteArray) : List S127 × Int :=
  if 0 < dend t 0 ∧ dend t 0 < t.size ∧ bt t (dend t 0 : Int) = 58 then ngo t (t.size + 1) [⟨dnum t 0, 0, false⟩] (dend t 0 + 1) else ([], (dend t 0 : Int))
theorem numbers_f (t : ByteArray) (hsz : t.size ≤ 65536) (k : Nat) (hk : 3 * (t.size + 1) + 2 * (t.size + 1) + 1 ≤ k) : bitset_numbers.f k t = some (nums t) := by
  obtain ⟨k, rfl⟩ : ∃ k', k = k' + 1 := ⟨k - 1, by omega⟩
  have hle := dend_le (t := t) (s := 0) (Nat.zero_le _)
  have hwe : wrap64 ((dend t 0 : Int) + 1) = ((dend t 0 + 1 : Nat) : Int) := by unfold wrap64; omega
  have hd := digits_f t hsz 0 (Nat.zero_le _) (k + 1) (by omega)
  have hj : ∀ b : Bool, b = true → bitset_numbers.j0 (k + 1) t [] (dend t 0 : Int) b (dnum t 0) ((0 : Nat) : Int) false = some ([], (dend t 0 : Int)) := by
    intro b hb
    rw [bitset_numbers.j0, if_pos hb]
  unfold bitset_numbers.f
  rw [show (0 : Int) = ((0 : Nat) : Int) from rfl, hd, Option.bind_some]
  simp only
  unfold nums
  by_cases h0 : 0 < dend t 0
  · rw [if_pos (by simpa using h0)]
    by_cases hz : dend t 0 = t.size
    · rw [if_pos (by omega), hj _ rfl, if_neg (by omega)]
    · rw [if_neg (by omega), if_pos (by omega), if_pos (by omega)]
      by_cases h58 : bt t (dend t 0 : Int) = 58
      · rw [if_pos ⟨h0, by omega, h58⟩, bitset_numbers.j0, if_neg (by simp [h58]), if_pos (by simp), hwe]
        exact numbers_l0 t hsz _ _ _ (by omega) (by omega) (by omega) (by simp) k (by omega)
      · rw [hj _ (by simp [h58]), if_neg (fun h => h58 h.2.2)]
  · rw [if_neg (by simpa using h0), hj _ rfl, if_neg (fun h => h0 h.1)]
end Go.Proofs.YtjmkhdhffmlhiaaDoor.PAll
end
section
namespace Go.Proofs.YtjmkhdhffmlhiaaDoor.PAll
set_option linter.unusedVariables false
set_option linter.unusedSimpArgs false
open Go.RowKit Go.Proofs.YtjmkhdhffmlhiaaDoorW.PrintWords Go.Proofs.YtjmkhdhffmlhiaaDoorW.PrintLast Go.Proofs.YtjmkhdhffmlhiaaDoorW.PrintMore
theorem pfill_is {n : Nat} (hn : n ≤ 4096) {v : Nat} (hv : v < n) : ∀ (k e : Nat) (p : Nat → Bool) (ws : List Int), e ≤ v + 1 → k = v + 1 - e → Is n p ws →
    ∃ ws', pfill (n : Int) (v : Int) k (e : Int) ws = some ws' ∧ Is n (fun d => p d || (decide (e ≤ d) && decide (d ≤ v))) ws'
  | 0, e, p, ws, h1, h2, h => by
    refine ⟨ws, ?_, h.congr fun d _ => ?_⟩
    · rw [pfill, if_neg (by omega)]
    · have : (decide (e ≤ d) && decide (d ≤ v)) = false := by
        rw [Bool.and_eq_false_iff, decide_eq_false_iff_not, decide_eq_false_iff_not]
        omega
      rw [this, Bool.or_false]
  | k + 1, e, p, ws, h1, h2, h => by
    have he : e < n := by omega
    obtain ⟨ws', h3, h4⟩ := pfill_is hn hv k (e + 1) _ _ (by omega) (by omega) (h.put he)
    refine ⟨ws', ?_, h4.congr fun d _ => ?_⟩
    · rw [pfill, if_pos (by omega), put_eq (h.lt he) (by omega), Option.bind_some]
      exact h3
    · by_cases hd : d = e
      · subst hd
        have h5 : decide (d ≤ d) = true := by simp
        have h6 : decide (d ≤ v) = true := decide_eq_true (by omega)
        simp [h5, h6]
      · have h5 : decide (e + 1 ≤ d) = decide (e ≤ d) := by
          apply decide_eq_decide.2
          omega
        rw [decide_eq_false hd, Bool.or_false, h5]
def plaw (n : Nat) : List S127 → (Nat → Bool) → Int → (Nat → Bool) ⊕ (Int × Int)
  | [], p, _ => .inl p
  | x :: r, p, ah =>
    if 0 ≤ x.f0 ∧ x.f0 < (n : Int) then
      if x.f0 < (if x.f2 = true then ah + 1 else ah + 2) then .inr (x.f1, 1)
      else plaw n r (fun d => p d || (decide ((if x.f2 = true then ah else x.f0) ≤ (d : Int)) && decide ((d : Int) ≤ x.f0))) x.f0
    else .inr (x.f1, 62)
theorem pgo_is {n : Nat} (hn : n ≤ 4096) : ∀ (l : List S127) (p : Nat → Bool) (ws : List Int) (ah : Int), Is n p ws → (∀ x r, l = x :: r → x.f2 = true → 0 ≤ ah) →
    (∀ q, plaw n l p ah = .inl q → ∃ ws', pgo (n : Int) l ws ah = some ((n : Int), ws', 0, 0) ∧ Is n q ws') ∧ (∀ a c, plaw n l p ah = .inr (a, c) → pgo (n : Int) l ws ah = some (0, [], a, c))
  | [], p, ws, ah, h, _ => by
    refine ⟨fun q hq => ?_, fun a c hq => ?_⟩
    · unfold plaw at hq
      injection hq with hq
      subst hq
      exact ⟨ws, rfl, h⟩
    · unfold plaw at hq
      cases hq
  | x :: r, p, ws, ah, h, hf => by
    unfold plaw
    by_cases hx : 0 ≤ x.f0 ∧ x.f0 < (n : Int)
    · rw [if_pos hx]
      by_cases hl : x.f0 < (if x.f2 = true then ah + 1 else ah + 2)
      · rw [if_pos hl]
        refine ⟨fun q hq => (by cases hq), fun a c hq => ?_⟩
        injection hq with hq
        injection hq with h1 h2
        subst h1 h2
        exact pgo_low hx.1 hx.2 hl
      · rw [if_neg hl]
        obtain ⟨v, hv⟩ : ∃ v : Nat, x.f0 = (v : Int) := ⟨x.f0.toNat, by omega⟩
        obtain ⟨e, he⟩ : ∃ e : Nat, (if x.f2 = true then ah else x.f0) = (e : Int) := by
          by_cases h2 : x.f2 = true
          · rw [if_pos h2]
            exact ⟨ah.toNat, by have := hf x r rfl h2; omega⟩
          · rw [if_neg h2]
            exact ⟨v, hv⟩
        have hev : e ≤ v + 1 := by
          by_cases h2 : x.f2 = true
          · rw [if_pos h2] at he hl
            omega
          · rw [if_neg h2] at he
            omega
        obtain ⟨w2, h3, h4⟩ := pfill_is hn (show v < n by omega) (v + 1 - e) e p ws hev rfl h
        have hg : pgo (n : Int) (x :: r) ws ah = pgo (n : Int) r w2 x.f0 := by
          rw [pgo_next hx.1 hx.2 hl, he, if_pos (by omega), hv, show ((v : Int) + 1 - (e : Int)).toNat = v + 1 - e from by omega, h3, Option.bind_some]
        have hp : (fun d : Nat => p d || (decide ((if x.f2 = true then ah else x.f0) ≤ (d : Int)) && decide ((d : Int) ≤ x.f0))) = fun d => p d || (decide (e ≤ d) && decide (d ≤ v)) := by
          funext d
          rw [he, hv]
          simp only [Int.ofNat_le]
        rw [hg, hp]
        exact pgo_is hn r _ w2 x.f0 h4 (fun _ _ _ _ => hx.1)
    · rw [if_neg hx]
      refine ⟨fun q hq => (by cases hq), fun a c hq => ?_⟩
      injection hq with hq
      injection hq with h1 h2
      subst h1 h2
      exact pgo_far (by omega)
end Go.Proofs.YtjmkhdhffmlhiaaDoor.PAll
end
section
namespace Go.Proofs.YtjmkhdhffmlhiaaDoor.PAll
set_option linter.unusedVariables false
set_option linter.unusedSimpArgs false
open Go.RowKit Go.Proofs.YtjmkhdhffmlhiaaDoorW.PrintWords Go.Proofs.YtjmkhdhffmlhiaaDoorW.PrintLast Go.Proofs.YtjmkhdhffmlhiaaDoorW.PrintMore
theorem ngo_ok (t : ByteArray) : ∀ (f : Nat) (l : List S127) (i : Nat), (ngo t f l i).2 < 0 → (ngo t f l i).2 = -1 ∧ ∃ r, (ngo t f l i).1 = l ++ r ∧ r.length ≤ f ∧ (l.length = 1 → ∀ y s, r = y :: s → y.f2 = false)
  | 0, l, i, h => by
    unfold ngo at h
    simp only at h
    omega
  | f + 1, l, i, h => by
    have hl1 : l.length = 1 → lastAt t l i = false := fun h1 => by
      unfold lastAt
      rw [h1]
      rfl
    unfold ngo at h ⊢
    split at h
    · rename_i c1
      rw [if_pos c1]
      split at h
      · rename_i c2
        rw [if_pos c2]
        split at h
        · rename_i c3
          rw [if_pos c3]
          refine ⟨rfl, [⟨dnum t i, (i : Int), lastAt t l i⟩], rfl, by simp, fun h1 y s e => ?_⟩
          injection e with e1 _
          rw [← e1]
          exact hl1 h1
        · rename_i c3
          rw [if_neg c3]
          split at h
          · rename_i c4
            rw [if_pos c4]
            obtain ⟨h2, r, h3, h4, _⟩ := ngo_ok t f _ _ h
            refine ⟨h2, ⟨dnum t i, (i : Int), lastAt t l i⟩ :: r, ?_, by simp only [List.length_cons]; omega, fun h1 y s e => ?_⟩
            · rw [h3, List.append_assoc]
              rfl
            · injection e with e1 _
              rw [← e1]
              exact hl1 h1
          · simp only at h
            omega
      · simp only at h
        omega
    · rename_i c1
      rw [if_neg c1]
      exact ⟨rfl, [], by simp, by simp, fun _ y s e => by cases e⟩
theorem nums_ok (t : ByteArray) (h : (nums t).2 < 0) : ∃ x0 l, nums t = (x0 :: l, -1) ∧ l.length ≤ t.size + 1 ∧ (∀ y s, l = y :: s → y.f2 = false) := by
  unfold nums at h ⊢
  split at h
  · rename_i c
    rw [if_pos c]
    obtain ⟨h2, r, h3, h4, h5⟩ := ngo_ok t _ _ _ h
    exact ⟨_, r, Prod.ext h3 h2, h4, h5 rfl⟩
  · simp only at h
    omega
def ParseSays (t : ByteArray) (r : Int × List Int × Int × Int) : Prop :=
  if 65536 < t.size then r = (0, [], 65536, 4)
  else if 0 ≤ (nums t).2 then r = (0, [], (nums t).2, 5)
  else ∃ x0 l, nums t = (x0 :: l, -1) ∧
    ((¬ (0 ≤ x0.f0 ∧ x0.f0 ≤ 4096) ∧ r = (0, [], 0, 60)) ∨
     ∃ n : Nat, x0.f0 = (n : Int) ∧ n ≤ 4096 ∧
      ((∃ q ws, plaw n l (fun _ => false) (-2) = .inl q ∧ Is n q ws ∧ r = ((n : Int), ws, 0, 0)) ∨ ∃ a c, plaw n l (fun _ => false) (-2) = .inr (a, c) ∧ r = (0, [], a, c)))
theorem Parse_says (t : ByteArray) (w : World) : ∃ r, ParseSays t r ∧
    Calls Tryd.prog 64 #[.string t] w fun e w' => ∃ v : Value, e = .returned (.tuple #[.agg #[.int .i64 r.1, v], .int .i64 r.2.2.1, .int .i64 r.2.2.2]) ∧ Kd.R (Kd.int .u64) 87 w' w.heap.size (fun _ => True) v r.2.1 ∧ Below w.heap.size w w' := by
  by_cases hz : 65536 < t.size
  · refine ⟨(0, [], 65536, 4), ?_, Parse_long t w (by omega)⟩
    unfold ParseSays
    rw [if_pos hz]
  · have hs : t.size ≤ 65536 := by omega
    have hnf := numbers_f t hs (3 * (t.size + 1) + 2 * (t.size + 1) + 1) (Nat.le_refl _)
    by_cases hq : 0 ≤ (nums t).2
    · refine ⟨(0, [], (nums t).2, 5), ?_, Parse_digit t w _ (nums t).1 (nums t).2 (by omega) hnf hq⟩
      unfold ParseSays
      rw [if_neg hz, if_pos hq]
    · obtain ⟨x0, l, hn, hl, hf⟩ := nums_ok t (by omega)
      rw [hn] at hnf
      by_cases hx : 0 ≤ x0.f0 ∧ x0.f0 ≤ 4096
      · obtain ⟨n, hn0⟩ : ∃ n : Nat, x0.f0 = (n : Int) := ⟨x0.f0.toNat, by omega⟩
        have hn4 : n ≤ 4096 := by omega
        have hg := pgo_is hn4 l (fun _ => false) _ (-2) (Is.none n) (fun x r e h2 => by rw [hf x r e] at h2; cases h2)
        have hP := fun r1 rw r3 r4 h => Parse_yes _ t x0 l n _ rw r1 r3 r4 w (by omega) hnf hn0 hn4 (by omega) (sized_yes hn4) (blank_eq hn4) h
        cases hp : plaw n l (fun _ => false) (-2) with
        | inl q =>
          obtain ⟨ws, h1, h2⟩ := hg.1 q hp
          refine ⟨((n : Int), ws, 0, 0), ?_, hP _ _ _ _ h1⟩
          unfold ParseSays
          rw [if_neg hz, if_neg hq]
          exact ⟨x0, l, hn, .inr ⟨n, hn0, hn4, .inl ⟨q, ws, hp, h2, rfl⟩⟩⟩
        | inr ac =>
          obtain ⟨a, c⟩ := ac
          refine ⟨(0, [], a, c), ?_, hP _ _ _ _ (hg.2 a c hp)⟩
          unfold ParseSays
          rw [if_neg hz, if_neg hq]
          exact ⟨x0, l, hn, .inr ⟨n, hn0, hn4, .inr ⟨a, c, hp, rfl⟩⟩⟩
      · refine ⟨(0, [], 0, 60), ?_, Parse_wide t w _ x0 l (by omega) hnf (sized_no (by omega))⟩
        unfold ParseSays
        rw [if_neg hz, if_neg hq]
        exact ⟨x0, l, hn, .inl ⟨hx, rfl⟩⟩
end Go.Proofs.YtjmkhdhffmlhiaaDoor.PAll
end
section
namespace Go.Proofs.YtjmkhdhffmlhiaaDoor.PAll
set_option linter.unusedVariables false
set_option linter.unusedSimpArgs false
open Go.RowKit Go.Proofs.YtjmkhdhffmlhiaaDoorW.PrintWords Go.Proofs.YtjmkhdhffmlhiaaDoorW.PrintLast Go.Proofs.YtjmkhdhffmlhiaaDoorW.PrintMore
def tl (t : ByteArray) (i : Nat) : List UInt8 := t.data.toList.drop i
theorem tl_cons {t : ByteArray} {i : Nat} (h : i < t.size) : tl t i = t[i] :: tl t (i + 1) := by
  unfold tl
  rw [List.drop_eq_getElem_cons (by simpa using h)]
  rfl
theorem tl_end {t : ByteArray} {i : Nat} (h : t.size ≤ i) : tl t i = [] := by
  unfold tl
  exact List.drop_of_length_le (by simpa using h)
theorem bt_nat {t : ByteArray} {i : Nat} (h : i < t.size) : bt t (i : Int) = (t[i].toNat : Int) := by
  unfold bt
  rw [dif_pos (by simpa using h)]
  rfl
theorem tl_head {t : ByteArray} {i : Nat} {c : UInt8} {r : List UInt8} (h : tl t i = c :: r) : i < t.size ∧ bt t (i : Int) = (c.toNat : Int) ∧ tl t (i + 1) = r := by
  by_cases hi : i < t.size
  · have h2 := tl_cons hi
    rw [h] at h2
    injection h2 with h3 h4
    refine ⟨hi, ?_, h4.symm⟩
    rw [bt_nat hi, h3]
  · rw [tl_end (by omega)] at h
    cases h
theorem u8_of {c : UInt8} {v : Nat} (h : c.toNat = v) : c = UInt8.ofNat v := by
  subst h
  simp
theorem tl_byte {t : ByteArray} {i v : Nat} (hi : i < t.size) (h : bt t (i : Int) = (v : Int)) : tl t i = UInt8.ofNat v :: tl t (i + 1) := by
  rw [bt_nat hi] at h
  rw [tl_cons hi, u8_of (show t[i].toNat = v by omega)]
theorem tl_dig {t : ByteArray} {i : Nat} (h : isD t i) : ∃ d : Nat, d ≤ 9 ∧ bt t (i : Int) = ((48 + d : Nat) : Int) ∧ tl t i = UInt8.ofNat (48 + d) :: tl t (i + 1) := by
  obtain ⟨h1, h2, h3⟩ := h
  have h4 : bt t (i : Int) = ((48 + (bt t (i : Int) - 48).toNat : Nat) : Int) := by omega
  exact ⟨(bt t (i : Int) - 48).toNat, by omega, h4, tl_byte h1 h4⟩
theorem of_nat_small {v : Nat} (h : v < 256) : (UInt8.ofNat v).toNat = v := by simp; omega
theorem dgo_cut (t : ByteArray) (s : Nat) : ∀ f i, (dgo t s f i 1048576).1 = 1048576
  | 0, _ => rfl
  | f + 1, i => by
    unfold dgo
    split
    · rename_i hd
      have h1 := hd.2.1
      have : mn (1048576 * 10 + (bt t (i : Int) - 48)) 1048576 = 1048576 := by unfold mn; split <;> omega
      rw [this]
      split
      · rfl
      · exact dgo_cut t s f (i + 1)
    · rfl
theorem dd_next {v d : Nat} (hv : 0 < v) (hd : d ≤ 9) : dd (v * 10 + d) = dd v ++ [UInt8.ofNat (48 + d)] := by
  rw [dd_big (show ¬ v * 10 + d < 10 by omega), show (v * 10 + d) / 10 = v by omega, show (v * 10 + d) % 10 = d by omega]
theorem dgo_sound (t : ByteArray) (s : Nat) : ∀ (f i v : Nat), s ≤ i → i ≤ t.size → v < 1048576 → (i = s → v = 0) → (s < i → 0 < v ∧ tl t s = dd v ++ tl t i) → (dgo t s f i (v : Int)).1 < 1048576 → s < (dgo t s f i (v : Int)).2 → ∃ u : Nat, (dgo t s f i (v : Int)).1 = (u : Int) ∧ tl t s = dd u ++ tl t (dgo t s f i (v : Int)).2 := by
  intro f
  induction f with
  | zero => exact fun i v h1 h2 h3 h4 h5 h6 h7 => ⟨v, rfl, (h5 h7).2⟩
  | succ f ih =>
    intro i v h1 h2 h3 h4 h5 h6 h7
    unfold dgo at h6 h7 ⊢
    by_cases hd : isD t i
    · obtain ⟨d, e1, e2, e3⟩ := tl_dig hd
      rw [if_pos hd] at h6 h7 ⊢
      have hv : (v : Int) * 10 + (bt t (i : Int) - 48) = ((v * 10 + d : Nat) : Int) := by omega
      rw [hv] at h6 h7 ⊢
      by_cases hz : i = s ∧ bt t (s : Int) = 48
      · rw [if_pos hz] at h6 h7 ⊢
        obtain ⟨rfl, hz2⟩ := hz
        obtain rfl : d = 0 := by omega
        obtain rfl := h4 rfl
        exact ⟨0, rfl, by rw [e3, dd_small (by omega)]; rfl⟩
      · rw [if_neg hz] at h6 h7 ⊢
        by_cases hc : v * 10 + d < 1048576
        · have hm : mn ((v * 10 + d : Nat) : Int) 1048576 = ((v * 10 + d : Nat) : Int) := by unfold mn; split <;> omega
          rw [hm] at h6 h7 ⊢
          refine ih (i + 1) (v * 10 + d) (by omega) hd.1 hc (fun h => by omega) (fun _ => ?_) h6 h7
          by_cases hi : i = s
          · subst hi
            obtain rfl := h4 rfl
            have hd0 : d ≠ 0 := fun h => hz ⟨rfl, by omega⟩
            refine ⟨by omega, ?_⟩
            rw [e3, show 0 * 10 + d = d by omega, dd_small (by omega)]
            rfl
          · obtain ⟨g1, g2⟩ := h5 (by omega)
            refine ⟨by omega, ?_⟩
            rw [g2, e3, dd_next g1 e1, List.append_assoc]
            rfl
        · have hm : mn ((v * 10 + d : Nat) : Int) 1048576 = 1048576 := by unfold mn; split <;> omega
          rw [hm, dgo_cut] at h6
          omega
    · rw [if_neg hd] at h6 h7 ⊢
      exact ⟨v, rfl, (h5 h7).2⟩
theorem dnum_sound {t : ByteArray} {s : Nat} (hs : s ≤ t.size) (h1 : dnum t s < 1048576) (h2 : s < dend t s) : ∃ u : Nat, dnum t s = (u : Int) ∧ tl t s = dd u ++ tl t (dend t s) :=
  dgo_sound t s _ s 0 (Nat.le_refl _) hs (by omega) (fun _ => rfl) (fun h => absurd h (Nat.lt_irrefl _)) h1 h2
theorem dgo_nn (t : ByteArray) (s : Nat) : ∀ (f i : Nat) (v : Int), 0 ≤ v → 0 ≤ (dgo t s f i v).1
  | 0, _, _, h => h
  | f + 1, i, v, h => by
    unfold dgo
    split
    · rename_i hd
      have h1 := hd.2.1
      have h2 : 0 ≤ mn (v * 10 + (bt t (i : Int) - 48)) 1048576 := mn_nn (by omega)
      split
      · exact h2
      · exact dgo_nn t s f (i + 1) _ h2
    · exact h
theorem dnum_nn (t : ByteArray) (s : Nat) : 0 ≤ dnum t s := dgo_nn t s _ _ _ (Int.le_refl 0)
theorem dgo_over (t : ByteArray) (s : Nat) : ∀ (u : Nat), 0 < u → u < 1048576 → ∀ (rest : List UInt8) (f : Nat), tl t s = dd u ++ rest → (dd u).length ≤ f → dgo t s f s 0 = dgo t s (f - (dd u).length) (s + (dd u).length) (u : Int) ∧ tl t (s + (dd u).length) = rest := by
  intro u
  induction u using Nat.strongRecOn with
  | ind u ih =>
    intro h0 hu rest f ht hf
    by_cases hs : u < 10
    · rw [dd_small hs] at ht hf ⊢
      obtain ⟨g1, g2, g3⟩ := tl_head ht
      rw [of_nat_small (by omega)] at g2
      simp only [List.length_cons, List.length_nil, Nat.zero_add] at hf ⊢
      obtain ⟨f, rfl⟩ : ∃ f', f = f' + 1 := ⟨f - 1, by omega⟩
      refine ⟨?_, g3⟩
      rw [dgo, if_pos ⟨g1, by omega, by omega⟩, if_neg (fun h => by have := h.2; omega), g2, show (0 : Int) * 10 + (((48 + u : Nat) : Int) - 48) = (u : Int) by omega, show mn (u : Int) 1048576 = (u : Int) by unfold mn; split <;> omega]
      rfl
    · rw [dd_big hs, List.append_assoc] at ht
      rw [dd_big hs, List.length_append] at hf ⊢
      simp only [List.length_cons, List.length_nil, Nat.zero_add] at hf ⊢
      obtain ⟨g1, g2⟩ := ih (u / 10) (by omega) (by omega) (by omega) _ f ht (by omega)
      obtain ⟨k1, k2, k3⟩ := tl_head g2
      rw [of_nat_small (by omega)] at k2
      refine ⟨?_, k3⟩
      have hl : 0 < (dd (u / 10)).length := by
        by_cases h : u / 10 < 10
        · rw [dd_small h]; simp
        · rw [dd_big h]; simp
      rw [g1, show f - (dd (u / 10)).length = (f - ((dd (u / 10)).length + 1)) + 1 by omega, dgo, if_pos ⟨k1, by omega, by omega⟩, if_neg (fun h => by have := h.1; omega), k2,
        show ((u / 10 : Nat) : Int) * 10 + (((48 + u % 10 : Nat) : Int) - 48) = (u : Int) by omega, show mn (u : Int) 1048576 = (u : Int) by unfold mn; split <;> omega]
      rfl
theorem dd_pos (u : Nat) : 0 < (dd u).length := by
  by_cases h : u < 10
  · rw [dd_small h]; simp
  · rw [dd_big h]; simp
def NoDig (r : List UInt8) : Prop := ∀ c s, r = c :: s → ¬ (48 ≤ c.toNat ∧ c.toNat ≤ 57)
theorem dnum_full {t : ByteArray} {s u : Nat} {rest : List UInt8} (hs : s ≤ t.size) (ht : tl t s = dd u ++ rest) (hu : u < 1048576) (hr : NoDig rest) : dnum t s = (u : Int) ∧ dend t s = s + (dd u).length ∧ tl t (dend t s) = rest := by
  have hlen : (dd u).length ≤ t.size - s := by
    have h := congrArg List.length ht
    simp [tl] at h
    omega
  have key : dgo t s (t.size - s + 1) s 0 = ((u : Int), s + (dd u).length) ∧ tl t (s + (dd u).length) = rest := by
    by_cases h0 : u = 0
    · subst h0
      rw [dd_small (by omega)] at ht ⊢
      obtain ⟨g1, g2, g3⟩ := tl_head ht
      rw [of_nat_small (by omega)] at g2
      refine ⟨?_, g3⟩
      rw [dgo, if_pos ⟨g1, by omega, by omega⟩, if_pos ⟨rfl, g2⟩, g2]
      rfl
    · obtain ⟨g1, g2⟩ := dgo_over t s u (by omega) hu rest (t.size - s + 1) ht (by omega)
      refine ⟨?_, g2⟩
      rw [g1, show t.size - s + 1 - (dd u).length = (t.size - s - (dd u).length) + 1 by omega, dgo, if_neg]
      intro hd
      obtain ⟨d, e1, e2, e3⟩ := tl_dig hd
      rw [g2] at e3
      exact hr _ _ e3 (by rw [of_nat_small (by omega)]; omega)
  refine ⟨?_, ?_, ?_⟩
  · unfold dnum; rw [key.1]
  · unfold dend; rw [key.1]
  · unfold dend; rw [key.1]; exact key.2
end Go.Proofs.YtjmkhdhffmlhiaaDoor.PAll
end
section
namespace Go.Proofs.YtjmkhdhffmlhiaaDoor.PAll
set_option linter.unusedVariables false
set_option linter.unusedSimpArgs false
open Go.RowKit Go.Proofs.YtjmkhdhffmlhiaaDoorW.PrintWords Go.Proofs.YtjmkhdhffmlhiaaDoorW.PrintLast Go.Proofs.YtjmkhdhffmlhiaaDoorW.PrintMore
def bodyT : Bool → List S127 → List UInt8
  | _, [] => []
  | c, x :: r => (if x.f2 = true then [45] else if c = true then [44] else []) ++ dd x.f0.toNat ++ bodyT true r
def noSep : List S127 → List UInt8
  | [] => []
  | x :: r => dd x.f0.toNat ++ bodyT true r
def Alt : Bool → List S127 → Prop
  | _, [] => True
  | b, x :: r => (b = true → x.f2 = false) ∧ Alt x.f2 r
theorem lastAt_snoc (t : ByteArray) (l : List S127) (x : S127) (h : 0 < l.length) (i : Nat) : lastAt t (l ++ [x]) (i + 1) = (bt t (i : Int) == 45) := by
  unfold lastAt
  rw [decide_eq_true (by simp; omega), Bool.true_and, show ((i + 1 : Nat) : Int) - 1 = (i : Int) by omega]
theorem ngo_sound (t : ByteArray) : ∀ (f : Nat) (l : List S127) (i : Nat), 0 < l.length → i ≤ t.size → (ngo t f l i).2 < 0 → ∃ r, (ngo t f l i).1 = l ++ r ∧ ((∀ x ∈ r, x.f0 < 1048576) → tl t i = noSep r) ∧ (1 < l.length → r ≠ []) ∧ (∀ x s, r = x :: s → x.f2 = lastAt t l i) ∧ Alt false r.tail ∧ Alt (lastAt t l i) r.tail ∧ (∀ x ∈ r, 0 ≤ x.f0 ∧ 0 ≤ x.f1 ∧ x.f1 ≤ (t.size : Int))
  | 0, l, i, h0, hi, h => by
    unfold ngo at h
    simp only at h
    omega
  | f + 1, l, i, h0, hi, h => by
    have hle := dend_le hi
    unfold ngo at h ⊢
    by_cases c1 : i < t.size ∨ 1 < l.length
    · rw [if_pos c1] at h ⊢
      by_cases c2 : i < dend t i
      · rw [if_pos c2] at h ⊢
        have hx : ∀ y : S127, y = ⟨dnum t i, (i : Int), lastAt t l i⟩ → 0 ≤ y.f0 ∧ 0 ≤ y.f1 ∧ y.f1 ≤ (t.size : Int) := by
          intro y e
          subst e
          exact ⟨dnum_nn t i, by show (0 : Int) ≤ (i : Int); omega, by show (i : Int) ≤ _; omega⟩
        by_cases c3 : dend t i = t.size
        · rw [if_pos c3] at h ⊢
          refine ⟨[⟨dnum t i, (i : Int), lastAt t l i⟩], rfl, fun hb => ?_, fun _ e => (by cases e), fun x s e => ?_, trivial, trivial, fun x hx1 => hx x (by simpa using hx1)⟩
          · obtain ⟨u, e1, e2⟩ := dnum_sound hi (hb (⟨dnum t i, (i : Int), lastAt t l i⟩ : S127) (by simp)) c2
            rw [e2, c3, tl_end (Nat.le_refl _), noSep, bodyT]
            simp [e1]
          · injection e with e1 _
            rw [← e1]
        · rw [if_neg c3] at h ⊢
          by_cases c4 : bt t (dend t i : Int) = 44 ∨ (bt t (dend t i : Int) = 45 ∧ lastAt t l i = false)
          · rw [if_pos c4] at h ⊢
            obtain ⟨r, g1, g2, g3, g4, g5, g6, g7⟩ := ngo_sound t f _ _ (by simp) (by omega) h
            have hlt : dend t i < t.size := by omega
            have g3' := g3 (by simp; omega)
            obtain ⟨y, s, rfl⟩ : ∃ y s, r = y :: s := by
              cases r with
              | nil => exact absurd rfl g3'
              | cons y s => exact ⟨y, s, rfl⟩
            have g4' := g4 y s rfl
            rw [lastAt_snoc t l _ h0] at g4' g6
            refine ⟨⟨dnum t i, (i : Int), lastAt t l i⟩ :: y :: s, ?_, fun hb => ?_, fun _ e => (by cases e), fun x s' e => ?_, ?_, ?_, ?_⟩
            · rw [g1, List.append_assoc]
              rfl
            · obtain ⟨u, e1, e2⟩ := dnum_sound hi (hb (⟨dnum t i, (i : Int), lastAt t l i⟩ : S127) (by simp)) c2
              have e3 := g2 (fun x hx1 => hb x (List.mem_cons_of_mem _ hx1))
              rw [e2, noSep, bodyT]
              simp only [e1, Int.toNat_natCast]
              rcases c4 with c5 | ⟨c5, c6⟩
              · rw [tl_byte (v := 44) hlt c5, e3, g4', c5]
                simp [noSep]
              · rw [tl_byte (v := 45) hlt c5, e3, g4', c5]
                simp [noSep]
            · injection e with e1 _
              rw [← e1]
            · refine ⟨fun e => (by cases e), ?_⟩
              rw [g4']
              exact g6
            · refine ⟨fun e => ?_, ?_⟩
              · rw [g4']
                rcases c4 with c5 | ⟨c5, c6⟩
                · rw [c5]; rfl
                · rw [c6] at e; cases e
              · rw [g4']
                exact g6
            · intro x hx1
              rcases List.mem_cons.1 hx1 with e | e
              · exact hx x e
              · exact g7 x e
          · rw [if_neg c4] at h
            simp only at h
            omega
      · rw [if_neg c2] at h
        simp only at h
        omega
    · rw [if_neg c1] at h ⊢
      refine ⟨[], by simp, fun _ => ?_, fun hl => absurd (Or.inr hl) c1, fun x s e => (by cases e), trivial, trivial, fun x hx => (by cases hx)⟩
      rw [tl_end (by omega)]
      rfl
theorem nums_sound {t : ByteArray} {x0 : S127} {l : List S127} (h : nums t = (x0 :: l, -1)) : 0 ≤ x0.f0 ∧ (x0.f0 < 1048576 → (∀ x ∈ l, x.f0 < 1048576) → t.data.toList = dd x0.f0.toNat ++ 58 :: bodyT false l) ∧ Alt true l ∧ (∀ x ∈ l, 0 ≤ x.f0 ∧ 0 ≤ x.f1 ∧ x.f1 ≤ (t.size : Int)) := by
  unfold nums at h
  have hle := dend_le (t := t) (s := 0) (Nat.zero_le _)
  split at h
  · rename_i c
    obtain ⟨c1, c2, c3⟩ := c
    have h2 : (ngo t (t.size + 1) [⟨dnum t 0, 0, false⟩] (dend t 0 + 1)).2 < 0 := by rw [h]; show (-1 : Int) < 0; omega
    obtain ⟨r, g1, g2, g3, g4, g5, g6, g7⟩ := ngo_sound t _ _ _ (by simp) (by omega) h2
    rw [h] at g1
    injection g1 with e1 e2
    subst e1
    obtain rfl : l = r := e2
    have hl : lastAt t [⟨dnum t 0, 0, false⟩] (dend t 0 + 1) = false := rfl
    rw [hl] at g4 g6
    refine ⟨dnum_nn t 0, fun hx hb => ?_, ?_, g7⟩
    · obtain ⟨u, e1, e2⟩ := dnum_sound (t := t) (s := 0) (Nat.zero_le _) hx c1
      have e4 := g2 hb
      have e5 : t.data.toList = tl t 0 := rfl
      rw [e5, e2, tl_byte (v := 58) c2 c3, e4]
      simp only [e1, Int.toNat_natCast]
      cases l with
      | nil => rfl
      | cons y s =>
        rw [noSep, bodyT, g4 y s rfl]
        rfl
    · cases l with
      | nil => trivial
      | cons y s =>
        have := g4 y s rfl
        refine ⟨fun _ => this, ?_⟩
        rw [this]
        exact g6
  · injection h with h1 h2
    omega
theorem ngo_at (t : ByteArray) : ∀ (f : Nat) (l : List S127) (i : Nat), i ≤ t.size → t.size - i < f → (ngo t f l i).2 = -1 ∨ (0 ≤ (ngo t f l i).2 ∧ (ngo t f l i).2 ≤ (t.size : Int))
  | 0, l, i, hi, h => absurd h (Nat.not_lt_zero _)
  | f + 1, l, i, hi, h => by
    have hle := dend_le hi
    unfold ngo
    split
    · split
      · split
        · exact .inl rfl
        · split
          · exact ngo_at t f _ _ (by omega) (by omega)
          · exact .inr ⟨by show (0 : Int) ≤ (dend t i : Int); omega, by show (dend t i : Int) ≤ _; omega⟩
      · exact .inr ⟨by show (0 : Int) ≤ (dend t i : Int); omega, by show (dend t i : Int) ≤ _; omega⟩
    · exact .inl rfl
theorem nums_at (t : ByteArray) : (nums t).2 = -1 ∨ (0 ≤ (nums t).2 ∧ (nums t).2 ≤ (t.size : Int)) := by
  have hle := dend_le (t := t) (s := 0) (Nat.zero_le _)
  unfold nums
  split
  · exact ngo_at t _ _ _ (by omega) (by omega)
  · exact .inr ⟨by show (0 : Int) ≤ (dend t 0 : Int); omega, by show (dend t 0 : Int) ≤ _; omega⟩
def textR : Bool → List (Nat × Nat) → List UInt8
  | _, [] => []
  | c, (f, g) :: r => (if c = true then [44] else []) ++ dd f ++ (if f < g then 45 :: dd g else []) ++ textR true r
def inR : List (Nat × Nat) → Nat → Bool
  | [], _ => false
  | (f, g) :: r, d => (decide (f ≤ d) && decide (d ≤ g)) || inR r d
def Runs (n : Nat) : Nat → List (Nat × Nat) → Prop
  | _, [] => True
  | b, (f, g) :: r => b ≤ f ∧ f ≤ g ∧ g < n ∧ Runs n (g + 2) r
theorem inR_low {n : Nat} : ∀ {R : List (Nat × Nat)} {b d : Nat}, Runs n b R → d < b → inR R d = false
  | [], _, _, _, _ => rfl
  | (f, g) :: r, b, d, h, hd => by
    obtain ⟨h1, h2, h3, h4⟩ := h
    rw [inR, decide_eq_false (show ¬ f ≤ d by omega), Bool.false_and, Bool.false_or]
    exact inR_low h4 (by omega)
theorem refT_of_runs {n : Nat} (q : Nat → Bool) : ∀ (R : List (Nat × Nat)) (e b : Nat) (c : Bool), e ≤ n → e ≤ b → (e = b → e = 0) → Runs n b R → (∀ d, e ≤ d → d < n → q d = inR R d) → refT q n (n - e) e c = textR c R
  | [], e, b, c, he, hb, _, _, hq => by
    rw [refT_skip q n c (Nat.le_refl n) (n - e) e (by omega) (fun d h1 h2 => by rw [hq d h1 h2]; rfl), Nat.sub_self]
    rfl
  | (f, g) :: r, e, b, c, he, hb, h0, hR, hq => by
    obtain ⟨h1, h2, h3, h4⟩ := hR
    have low : ∀ d, e ≤ d → d < f → q d = false := fun d d1 d2 => by
      rw [hq d d1 (by omega), inR, decide_eq_false (show ¬ f ≤ d by omega), Bool.false_and, Bool.false_or]
      exact inR_low h4 (by omega)
    have mid : ∀ d, f ≤ d → d ≤ g → q d = true := fun d d1 d2 => by
      rw [hq d (by omega) (by omega), inR, decide_eq_true d1, decide_eq_true d2]
      rfl
    have high : ∀ d, g + 1 ≤ d → d < n → q d = inR r d := fun d d1 d2 => by
      rw [hq d (by omega) d2, inR, decide_eq_false (show ¬ d ≤ g by omega), Bool.and_false, Bool.false_or]
    have hend : g + 1 = n ∨ q (g + 1) = false := by
      by_cases hn : g + 1 = n
      · exact .inl hn
      · exact .inr (by rw [high _ (Nat.le_refl _) (by omega)]; exact inR_low h4 (by omega))
    have hbeg : f = 0 ∨ q (f - 1) = false := by
      by_cases hf : f = 0
      · exact .inl hf
      · refine .inr (low _ ?_ (by omega))
        by_cases e = b
        · have := h0 ‹_›; omega
        · omega
    rw [refT_skip q n c (show f ≤ n by omega) (f - e) e (by omega) low, refT_run q n c h2 h3 mid hend hbeg, textR,
      refT_of_runs q r (g + 1) (g + 2) true (by omega) (by omega) (by omega) h4 high]
theorem least_of (P : Nat → Prop) (h : ∃ f, P f) : ∃ f, P f ∧ ∀ d, d < f → ¬ P d := by
  obtain ⟨f, hf⟩ := h
  induction f using Nat.strongRecOn with
  | ind f ih =>
    by_cases hx : ∃ d, d < f ∧ P d
    · obtain ⟨d, h1, h2⟩ := hx
      exact ih d h1 h2
    · exact ⟨f, hf, fun d hd hp => hx ⟨d, hd, hp⟩⟩
theorem runs_of {n : Nat} (p : Nat → Bool) : ∀ (k e : Nat), n - e ≤ k → ∃ R, Runs n e R ∧ ∀ d, e ≤ d → d < n → p d = inR R d
  | 0, e, h => ⟨[], trivial, fun d h1 h2 => by omega⟩
  | k + 1, e, h => by
    by_cases hx : ∃ f, e ≤ f ∧ f < n ∧ p f = true
    · obtain ⟨f, ⟨f1, f2, f3⟩, f4⟩ := least_of (fun f => e ≤ f ∧ f < n ∧ p f = true) hx
      have hy : ∃ g, f ≤ g ∧ g < n ∧ (g + 1 = n ∨ p (g + 1) = false) := ⟨n - 1, by omega, by omega, .inl (by omega)⟩
      obtain ⟨g, ⟨g1, g2, g3⟩, g4⟩ := least_of (fun g => f ≤ g ∧ g < n ∧ (g + 1 = n ∨ p (g + 1) = false)) hy
      have hin : ∀ j, f + j ≤ g → p (f + j) = true := by
        intro j
        induction j with
        | zero => exact fun _ => f3
        | succ j ih =>
          intro hj
          have h1 := g4 (f + j) (by omega)
          cases hp : p (f + j + 1) with
          | true => rfl
          | false => exact absurd ⟨by omega, by omega, .inr hp⟩ h1
      obtain ⟨R, r1, r2⟩ := runs_of (n := n) p k (g + 2) (by omega)
      refine ⟨(f, g) :: R, ⟨f1, g1, g2, r1⟩, fun d d1 d2 => ?_⟩
      rw [inR]
      by_cases c1 : d < f
      · rw [decide_eq_false (show ¬ f ≤ d by omega), Bool.false_and, Bool.false_or, inR_low r1 (by omega)]
        cases hp : p d with
        | false => rfl
        | true => exact absurd ⟨d1, d2, hp⟩ (f4 d c1)
      · by_cases c2 : d ≤ g
        · rw [decide_eq_true (show f ≤ d by omega), decide_eq_true c2]
          have := hin (d - f) (by omega)
          rw [show f + (d - f) = d by omega] at this
          rw [this]
          rfl
        · rw [decide_eq_false c2, Bool.and_false, Bool.false_or]
          by_cases c3 : d = g + 1
          · subst c3
            rw [inR_low r1 (by omega)]
            rcases g3 with h9 | h9
            · omega
            · exact h9
          · exact r2 d (by omega) d2
    · refine ⟨[], trivial, fun d d1 d2 => ?_⟩
      cases hp : p d with
      | false => rfl
      | true => exact absurd ⟨d, d1, d2, hp⟩ hx
theorem plaw_runs (n : Nat) : ∀ (k : Nat) (l : List S127), l.length ≤ k → ∀ (b : Nat) (ah : Int) (p q : Nat → Bool) (c : Bool), ((b : Int) = ah + 2) → Alt true l → plaw n l p ah = .inl q →
    ∃ R, Runs n b R ∧ bodyT c l = textR c R ∧ (∀ d, q d = (p d || inR R d)) ∧ ∀ x ∈ l, x.f0 < (n : Int)
  | _, [], _, b, ah, p, q, c, hb, ha, h => by
    unfold plaw at h
    injection h with h
    subst h
    exact ⟨[], trivial, rfl, fun d => (Bool.or_false _).symm, fun x hx => (by cases hx)⟩
  | 0, x :: r, hk, _, _, _, _, _, _, _, _ => by simp at hk
  | k + 1, x :: r, hk, b, ah, p, q, c, hb, ha, h => by
    obtain ⟨hx2, ha2⟩ := ha
    have hx2 := hx2 rfl
    unfold plaw at h
    by_cases h1 : 0 ≤ x.f0 ∧ x.f0 < (n : Int)
    · rw [if_pos h1, hx2, if_neg (show ¬ (false = true) by decide), if_neg (show ¬ (false = true) by decide)] at h
      by_cases h2 : x.f0 < ah + 2
      · rw [if_pos h2] at h
        cases h
      · rw [if_neg h2] at h
        obtain ⟨u, hu⟩ : ∃ u : Nat, x.f0 = (u : Int) := ⟨x.f0.toNat, by omega⟩
        rw [hx2] at ha2
        rw [hu] at h h2 h1
        have hone : ∀ d : Nat, (decide ((u : Int) ≤ (d : Int)) && decide ((d : Int) ≤ (u : Int))) = (decide (u ≤ d) && decide (d ≤ u)) := fun d => by simp only [Int.ofNat_le]
        cases r with
        | nil =>
          unfold plaw at h
          injection h with h
          subst h
          refine ⟨[(u, u)], ⟨by omega, Nat.le_refl _, by omega, trivial⟩, ?_, fun d => ?_, fun y hy => ?_⟩
          · simp [bodyT, textR, hx2, hu]
          · rw [inR, inR, Bool.or_false, ← hone]
          · rw [List.mem_singleton.1 hy, hu]; omega
        | cons y s =>
          cases hy2 : y.f2 with
          | false =>
            obtain ⟨R, r1, r2, r3, r4⟩ := plaw_runs n k (y :: s) (by simpa using hk) (u + 2) (u : Int) _ q true (by omega) ⟨fun _ => hy2, ha2.2⟩ h
            refine ⟨(u, u) :: R, ⟨by omega, Nat.le_refl _, by omega, r1⟩, ?_, fun d => ?_, fun z hz => ?_⟩
            · rw [bodyT, r2, textR, hx2, hu, if_neg (by decide), if_neg (Nat.lt_irrefl u), List.append_nil]
              rfl
            · rw [r3, inR, ← hone, Bool.or_assoc]
            · rcases List.mem_cons.1 hz with e | e
              · rw [e, hu]; omega
              · exact r4 z e
          | true =>
            unfold plaw at h
            by_cases h3 : 0 ≤ y.f0 ∧ y.f0 < (n : Int)
            · rw [if_pos h3, hy2, if_pos rfl, if_pos rfl] at h
              by_cases h4 : y.f0 < (u : Int) + 1
              · rw [if_pos h4] at h
                cases h
              · rw [if_neg h4] at h
                obtain ⟨v, hv⟩ : ∃ v : Nat, y.f0 = (v : Int) := ⟨y.f0.toNat, by omega⟩
                rw [hv] at h h3 h4
                have ha3 : Alt true s := by have := ha2.2; rw [hy2] at this; exact this
                obtain ⟨R, r1, r2, r3, r4⟩ := plaw_runs n k s (by simp at hk; omega) (v + 2) (v : Int) _ q true (by omega) ha3 h
                refine ⟨(u, v) :: R, ⟨by omega, by omega, by omega, r1⟩, ?_, fun d => ?_, fun z hz => ?_⟩
                · rw [bodyT, bodyT, r2, textR, hx2, hu, hy2, hv, if_neg (by decide), if_pos rfl, if_pos (show u < v by omega)]
                  simp
                · have e5 : q d = ((p d || (decide (u ≤ d) && decide (d ≤ u))) || (decide (u ≤ d) && decide (d ≤ v)) || inR R d) := by
                    rw [r3]
                    simp only [Int.ofNat_le]
                  have : ((decide (u ≤ d) && decide (d ≤ u)) || (decide (u ≤ d) && decide (d ≤ v))) = (decide (u ≤ d) && decide (d ≤ v)) := by
                    by_cases d1 : u ≤ d <;> by_cases d2 : d ≤ u <;> by_cases d3 : d ≤ v <;> simp [d1, d2, d3] <;> omega
                  rw [e5, inR, Bool.or_assoc (p d), this, Bool.or_assoc]
                · rcases List.mem_cons.1 hz with e | e
                  · rw [e, hu]; omega
                  · rcases List.mem_cons.1 e with e | e
                    · rw [e, hv]; omega
                    · exact r4 z e
            · rw [if_neg h3] at h
              cases h
    · rw [if_neg h1] at h
      cases h
theorem plaw_at (n : Nat) (m : Int) (hm : 0 ≤ m) : ∀ (l : List S127) (p : Nat → Bool) (ah a c : Int), (∀ x ∈ l, 0 ≤ x.f1 ∧ x.f1 ≤ m) → plaw n l p ah = .inr (a, c) → 0 ≤ a ∧ a ≤ m ∧ c ≠ 0
  | [], p, ah, a, c, hx, h => by
    unfold plaw at h
    cases h
  | x :: r, p, ah, a, c, hx, h => by
    have h0 := hx x (by simp)
    unfold plaw at h
    by_cases c1 : 0 ≤ x.f0 ∧ x.f0 < (n : Int)
    · rw [if_pos c1] at h
      by_cases c2 : x.f0 < (if x.f2 = true then ah + 1 else ah + 2)
      · rw [if_pos c2] at h
        injection h with h
        injection h with h1 h2
        subst h1 h2
        exact ⟨h0.1, h0.2, by decide⟩
      · rw [if_neg c2] at h
        exact plaw_at n m hm r _ _ a c (fun y hy => hx y (List.mem_cons_of_mem _ hy)) h
    · rw [if_neg c1] at h
      injection h with h
      injection h with h1 h2
      subst h1 h2
      exact ⟨h0.1, h0.2, by decide⟩
theorem plaw_fst {n : Nat} {x : S127} {r : List S127} {p : Nat → Bool} {ah : Int} {u : Nat} (h2 : x.f2 = false) (hu : x.f0 = (u : Int)) (hn : u < n) (hl : ah + 2 ≤ (u : Int)) : plaw n (x :: r) p ah = plaw n r (fun d => p d || (decide (u ≤ d) && decide (d ≤ u))) (u : Int) := by
  rw [plaw, hu, if_pos ⟨by omega, by omega⟩, h2, if_neg (show ¬ (false = true) by decide), if_neg (show ¬ (false = true) by decide), if_neg (by omega)]
  simp only [Int.ofNat_le]
theorem plaw_lst {n : Nat} {x : S127} {r : List S127} {p : Nat → Bool} {f u : Nat} (h2 : x.f2 = true) (hu : x.f0 = (u : Int)) (hn : u < n) (hl : f < u) : plaw n (x :: r) p (f : Int) = plaw n r (fun d => p d || (decide (f ≤ d) && decide (d ≤ u))) (u : Int) := by
  rw [plaw, hu, if_pos ⟨by omega, by omega⟩, h2, if_pos rfl, if_pos rfl, if_neg (by omega)]
  simp only [Int.ofNat_le]
theorem tl_lt {t : ByteArray} {i : Nat} (h : tl t i ≠ []) : i < t.size := Nat.lt_of_not_le fun hi => h (tl_end hi)
theorem ngo_last {t : ByteArray} {u i : Nat} (f : Nat) (l : List S127) (hu : u < 1048576) (h : tl t i = dd u) : ngo t (f + 1) l i = (l ++ [⟨(u : Int), (i : Int), lastAt t l i⟩], -1) := by
  have hp := dd_pos u
  have hi : i < t.size := tl_lt (fun e => by rw [← h, e] at hp; simp at hp)
  obtain ⟨e1, e2, e3⟩ := dnum_full (rest := []) (Nat.le_of_lt hi) (by rw [h, List.append_nil]) hu (fun c s e => by cases e)
  have hle := dend_le (Nat.le_of_lt hi)
  have hz : dend t i = t.size := by
    refine Nat.le_antisymm hle.2 (Nat.le_of_not_lt fun hlt => ?_)
    rw [tl_cons hlt] at e3
    cases e3
  rw [ngo, if_pos (.inl hi), if_pos (by omega), if_pos hz, e1]
theorem ngo_more {t : ByteArray} {u i c : Nat} {rest : List UInt8} (f : Nat) (l : List S127) (hu : u < 1048576) (h : tl t i = dd u ++ UInt8.ofNat c :: rest) (hc : c = 44 ∨ (c = 45 ∧ lastAt t l i = false)) :
    ngo t (f + 1) l i = ngo t f (l ++ [⟨(u : Int), (i : Int), lastAt t l i⟩]) (i + (dd u).length + 1) ∧ tl t (i + (dd u).length + 1) = rest ∧ i + (dd u).length < t.size ∧ bt t ((i + (dd u).length : Nat) : Int) = (c : Int) := by
  have hi : i < t.size := tl_lt (fun e => by rw [h] at e; simp at e)
  have hc2 : (UInt8.ofNat c).toNat = c := of_nat_small (by omega)
  obtain ⟨e1, e2, e3⟩ := dnum_full (Nat.le_of_lt hi) h hu (fun d s e => by injection e with e _; subst e; omega)
  have hp := dd_pos u
  obtain ⟨g1, g2, g3⟩ := tl_head e3
  rw [e2] at g1 g2 g3
  rw [hc2] at g2
  refine ⟨?_, g3, g1, g2⟩
  rw [ngo, if_pos (.inl hi), e2, if_pos (by omega), if_neg (by omega), if_pos, e1]
  rw [g2]
  rcases hc with hc | ⟨hc, hl⟩
  · exact .inl (by omega)
  · exact .inr ⟨by omega, hl⟩
def Names (n : Nat) (lst : List S127) (b : Nat) (R : List (Nat × Nat)) : Prop := ∀ (p : Nat → Bool) (ah : Int), ah + 2 ≤ (b : Int) → ∃ q, plaw n lst p ah = .inl q ∧ ∀ d, q d = (p d || inR R d)
theorem names_one {n b f : Nat} {at1 : Int} {lst : List S127} {R : List (Nat × Nat)} (hf : b ≤ f) (hn : f < n) (h : Names n lst (f + 2) R) : Names n (⟨(f : Int), at1, false⟩ :: lst) b ((f, f) :: R) := by
  intro p ah hb
  obtain ⟨q, q1, q2⟩ := h (fun d => p d || (decide (f ≤ d) && decide (d ≤ f))) (f : Int) (by omega)
  refine ⟨q, ?_, fun d => ?_⟩
  · rw [plaw_fst rfl rfl hn (by omega)]
    exact q1
  · rw [q2, inR, Bool.or_assoc]
theorem names_two {n b f g : Nat} {at1 at2 : Int} {lst : List S127} {R : List (Nat × Nat)} (hf : b ≤ f) (hfg : f < g) (hn : g < n) (h : Names n lst (g + 2) R) : Names n (⟨(f : Int), at1, false⟩ :: ⟨(g : Int), at2, true⟩ :: lst) b ((f, g) :: R) := by
  intro p ah hb
  obtain ⟨q, q1, q2⟩ := h (fun d => (p d || (decide (f ≤ d) && decide (d ≤ f))) || (decide (f ≤ d) && decide (d ≤ g))) (g : Int) (by omega)
  refine ⟨q, ?_, fun d => ?_⟩
  · rw [plaw_fst rfl rfl (show f < n by omega) (by omega), plaw_lst rfl rfl hn hfg]
    exact q1
  · rw [q2, inR]
    have : ((decide (f ≤ d) && decide (d ≤ f)) || (decide (f ≤ d) && decide (d ≤ g))) = (decide (f ≤ d) && decide (d ≤ g)) := by
      by_cases d1 : f ≤ d <;> by_cases d2 : d ≤ f <;> by_cases d3 : d ≤ g <;> simp [d1, d2, d3] <;> omega
    rw [Bool.or_assoc (p d), this, Bool.or_assoc]
theorem lastAt_no {t : ByteArray} {l : List S127} {x : S127} {i : Nat} (hl : 0 < l.length) (h : bt t (i : Int) = 44) : lastAt t (l ++ [x]) (i + 1) = false := by
  rw [lastAt_snoc t l x hl, h]
  rfl
theorem lastAt_yes {t : ByteArray} {l : List S127} {x : S127} {i : Nat} (hl : 0 < l.length) (h : bt t (i : Int) = 45) : lastAt t (l ++ [x]) (i + 1) = true := by
  rw [lastAt_snoc t l x hl, h]
  rfl
theorem ngo_run (t : ByteArray) (n : Nat) (hn : n ≤ 4096) {R : List (Nat × Nat)} {b f g : Nat}
    (ih : ∀ (u i fuel : Nat) (l : List S127), 0 < l.length → u < 1048576 → t.size - i < fuel → Runs n (u + 2) R → tl t i = dd u ++ textR true R → ∃ lst, ngo t fuel l i = (l ++ ⟨(u : Int), (i : Int), lastAt t l i⟩ :: lst, -1) ∧ Names n lst (u + 2) R)
    (i fuel : Nat) (l : List S127) (hl : 0 < l.length) (hfu : t.size - i < fuel) (hR : Runs n b ((f, g) :: R)) (ht : tl t i = textR false ((f, g) :: R)) (hla : lastAt t l i = false) :
    ∃ lst, ngo t fuel l i = (l ++ lst, -1) ∧ Names n lst b ((f, g) :: R) := by
  obtain ⟨h1, h2, h3, h4⟩ := hR
  rw [textR, if_neg (by decide), List.nil_append] at ht
  by_cases hfg : f < g
  · rw [if_pos hfg, List.append_assoc, List.cons_append] at ht
    obtain ⟨fuel, rfl⟩ : ∃ k, fuel = k + 1 := ⟨fuel - 1, by omega⟩
    obtain ⟨e1, e2, e3, e4⟩ := ngo_more (c := 45) fuel l (show f < 1048576 by omega) ht (.inr ⟨rfl, hla⟩)
    obtain ⟨lst, e5, e6⟩ := ih g (i + (dd f).length + 1) fuel (l ++ [⟨(f : Int), (i : Int), lastAt t l i⟩]) (by simp) (by omega) (by omega) h4 e2
    rw [lastAt_yes hl e4, hla] at e5
    refine ⟨⟨(f : Int), (i : Int), false⟩ :: ⟨(g : Int), ((i + (dd f).length + 1 : Nat) : Int), true⟩ :: lst, ?_, names_two h1 hfg h3 e6⟩
    rw [e1, hla, e5, List.append_assoc]
    rfl
  · obtain rfl : f = g := by omega
    rw [if_neg hfg, List.append_nil] at ht
    obtain ⟨lst, e5, e6⟩ := ih f i fuel l hl (by omega) hfu h4 ht
    rw [hla] at e5
    exact ⟨_, e5, names_one h1 h3 e6⟩
theorem ngo_tail (t : ByteArray) (n : Nat) (hn : n ≤ 4096) : ∀ (R : List (Nat × Nat)) (u i fuel : Nat) (l : List S127), 0 < l.length → u < 1048576 → t.size - i < fuel → Runs n (u + 2) R → tl t i = dd u ++ textR true R →
    ∃ lst, ngo t fuel l i = (l ++ ⟨(u : Int), (i : Int), lastAt t l i⟩ :: lst, -1) ∧ Names n lst (u + 2) R
  | [], u, i, fuel, l, hl, hu, hfu, hR, ht => by
    obtain ⟨fuel, rfl⟩ : ∃ k, fuel = k + 1 := ⟨fuel - 1, by omega⟩
    rw [textR, List.append_nil] at ht
    refine ⟨[], ngo_last fuel l hu ht, fun p ah _ => ⟨p, by rw [plaw], fun d => (Bool.or_false _).symm⟩⟩
  | (f, g) :: R, u, i, fuel, l, hl, hu, hfu, hR, ht => by
    obtain ⟨fuel, rfl⟩ : ∃ k, fuel = k + 1 := ⟨fuel - 1, by omega⟩
    have ht2 : tl t i = dd u ++ UInt8.ofNat 44 :: textR false ((f, g) :: R) := by
      rw [ht, textR, textR, if_pos rfl, if_neg (show ¬ (false = true) by decide)]
      simp
    obtain ⟨e1, e2, e3, e4⟩ := ngo_more (c := 44) fuel l hu ht2 (.inl rfl)
    obtain ⟨lst, e5, e6⟩ := ngo_run t n hn (ngo_tail t n hn R) (i + (dd u).length + 1) fuel (l ++ [⟨(u : Int), (i : Int), lastAt t l i⟩]) (by simp) (by omega) hR e2 (lastAt_no hl e4)
    refine ⟨lst, ?_, e6⟩
    rw [e1, e5, List.append_assoc]
    rfl
theorem nums_runs {t : ByteArray} {n : Nat} (hn : n ≤ 4096) {R : List (Nat × Nat)} (hR : Runs n 0 R) (ht : t.data.toList = dd n ++ 58 :: textR false R) : ∃ x0 lst, nums t = (x0 :: lst, -1) ∧ x0.f0 = (n : Int) ∧ ∃ q, plaw n lst (fun _ => false) (-2) = .inl q ∧ ∀ d, q d = inR R d := by
  have e0 : tl t 0 = dd n ++ UInt8.ofNat 58 :: textR false R := ht
  have hle := dend_le (t := t) (s := 0) (Nat.zero_le _)
  obtain ⟨e1, e2, e3⟩ := dnum_full (t := t) (s := 0) (Nat.zero_le _) e0 (by omega) (fun d s e => by injection e with e _; subst e; decide)
  obtain ⟨g1, g2, g3⟩ := tl_head e3
  have hp := dd_pos n
  have hnum : nums t = ngo t (t.size + 1) [⟨(n : Int), 0, false⟩] (dend t 0 + 1) := by
    unfold nums
    rw [if_pos ⟨by omega, g1, g2⟩, e1]
  rw [hnum]
  cases R with
  | nil =>
    have hz : ¬ dend t 0 + 1 < t.size := fun hlt => by rw [tl_cons hlt] at g3; cases g3
    refine ⟨⟨(n : Int), 0, false⟩, [], ?_, rfl, fun _ => false, by rw [plaw], fun d => rfl⟩
    rw [ngo, if_neg (fun h => by rcases h with h | h; exact hz h; simp at h)]
  | cons x R =>
    obtain ⟨f, g⟩ := x
    obtain ⟨lst, e5, e6⟩ := ngo_run t n hn (ngo_tail t n hn R) (dend t 0 + 1) (t.size + 1) [⟨(n : Int), 0, false⟩] (by simp) (by omega) hR g3 rfl
    obtain ⟨q, q1, q2⟩ := e6 (fun _ => false) (-2) (by omega)
    exact ⟨⟨(n : Int), 0, false⟩, lst, e5, rfl, q, q1, fun d => by rw [q2, Bool.false_or]⟩
end Go.Proofs.YtjmkhdhffmlhiaaDoor.PAll
end
section
namespace Go.Proofs.YtjmkhdhffmlhiaaDoor.PAll
set_option linter.unusedVariables false
set_option linter.unusedSimpArgs false
open Go.RowKit Go.Proofs.YtjmkhdhffmlhiaaDoorW.PrintWords Go.Proofs.YtjmkhdhffmlhiaaDoorW.PrintMore
def ba (l : List UInt8) : ByteArray := ⟨l.toArray⟩
theorem ba_size (a : List UInt8) : (ba a).size = a.length := by simp [ba, ByteArray.size]
end Go.Proofs.YtjmkhdhffmlhiaaDoor.PAll
end
section
namespace Go.Proofs.YtjmkhdhffmlhiaaDoor.PAll
set_option linter.unusedVariables false
set_option linter.unusedSimpArgs false
open Go.RowKit Go.Proofs.YtjmkhdhffmlhiaaDoorW.PrintWords Go.Proofs.YtjmkhdhffmlhiaaDoorW.PrintLast Go.Proofs.YtjmkhdhffmlhiaaDoorW.PrintMore
theorem ba_list (l : List UInt8) : (ba l).data.toList = l := by simp [ba]
theorem ba_of {t : ByteArray} {l : List UInt8} (h : t.data.toList = l) : t = ba l := by
  subst h
  unfold ba
  rw [Array.toArray_toList]
theorem txt_len {n : Nat} (hn : n ≤ 4096) (p : Nat → Bool) : (txtOf p n).length ≤ 65536 := by
  have h1 := dd_le hn
  have h2 := refT_len p n n 0 false (by omega)
  unfold txtOf
  rw [List.length_append, List.length_cons]
  omega
theorem txt_nums {n : Nat} (hn : n ≤ 4096) (p : Nat → Bool) : ∃ x0 lst, nums (ba (txtOf p n)) = (x0 :: lst, -1) ∧ x0.f0 = (n : Int) ∧ ∃ q, plaw n lst (fun _ => false) (-2) = .inl q ∧ ∀ d, d < n → q d = p d := by
  obtain ⟨R, r1, r2⟩ := runs_of (n := n) p n 0 (by omega)
  have h1 : refT p n (n - 0) 0 false = textR false R := refT_of_runs p R 0 0 false (Nat.zero_le _) (Nat.le_refl _) (fun _ => rfl) r1 r2
  obtain ⟨x0, lst, e1, e2, q, e3, e4⟩ := nums_runs (t := ba (txtOf p n)) hn r1 (by rw [ba_list]; unfold txtOf; rw [← h1, Nat.sub_zero])
  exact ⟨x0, lst, e1, e2, q, e3, fun d hd => by rw [e4, r2 d (Nat.zero_le _) hd]⟩
theorem round_back {n : Nat} (hn : n ≤ 4096) {p : Nat → Bool} {ws : List Int} (h : Is n p ws) {r : Int × List Int × Int × Int} (hr : ParseSays (ba (txtOf p n)) r) : r = ((n : Int), ws, 0, 0) := by
  have hl := txt_len hn p
  obtain ⟨x0, lst, e1, e2, q, e3, e4⟩ := txt_nums hn p
  unfold ParseSays at hr
  rw [if_neg (by rw [ba_size]; omega), e1, if_neg (show ¬ (0 ≤ (-1 : Int)) by decide)] at hr
  obtain ⟨x1, l1, g1, g2⟩ := hr
  injection g1 with g1 _
  injection g1 with g3 g4
  subst g3 g4
  rcases g2 with ⟨g5, _⟩ | ⟨m, g5, g6, g7⟩
  · exact absurd ⟨by omega, by omega⟩ g5
  · obtain rfl : m = n := by omega
    rcases g7 with ⟨q', ws', g8, g9, g10⟩ | ⟨a, c, g8, _⟩
    · rw [e3] at g8
      injection g8 with g8
      subst g8
      obtain rfl : ws' = ws := g9.eq h e4
      exact g10
    · rw [e3] at g8
      cases g8
theorem round_text {t : ByteArray} {r : Int × List Int × Int × Int} (hr : ParseSays t r) : (r.2.2.2 ≠ 0 ∧ r.1 = 0 ∧ r.2.1 = [] ∧ 0 ≤ r.2.2.1 ∧ r.2.2.1 ≤ (t.size : Int)) ∨ ∃ (n : Nat) (q : Nat → Bool) (ws : List Int), n ≤ 4096 ∧ Is n q ws ∧ r = ((n : Int), ws, 0, 0) ∧ t = ba (txtOf q n) := by
  unfold ParseSays at hr
  by_cases hz : 65536 < t.size
  · rw [if_pos hz] at hr
    subst hr
    exact .inl ⟨by decide, rfl, rfl, by decide, by show (65536 : Int) ≤ _; omega⟩
  · rw [if_neg hz] at hr
    by_cases hq : 0 ≤ (nums t).2
    · rw [if_pos hq] at hr
      subst hr
      refine .inl ⟨show (5 : Int) ≠ 0 by decide, rfl, rfl, hq, ?_⟩
      rcases nums_at t with h | h
      · omega
      · exact h.2
    · rw [if_neg hq] at hr
      obtain ⟨x0, l, g1, g2⟩ := hr
      obtain ⟨s1, s2, s3, s4⟩ := nums_sound g1
      rcases g2 with ⟨_, g5⟩ | ⟨n, g5, g6, g7⟩
      · subst g5
        exact .inl ⟨by decide, rfl, rfl, Int.le_refl _, by show (0 : Int) ≤ _; omega⟩
      · rcases g7 with ⟨q, ws, g8, g9, g10⟩ | ⟨a, c, g8, g9⟩
        · obtain ⟨R, r1, r2, r3, r4⟩ := plaw_runs n l.length l (Nat.le_refl _) 0 (-2) _ q false (by omega) s3 g8
          refine .inr ⟨n, q, ws, g6, g9, g10, ba_of ?_⟩
          rw [s2 (by omega) (fun x hx => by have := r4 x hx; omega), r2, g5]
          unfold txtOf
          have h1 : refT q n (n - 0) 0 false = textR false R := refT_of_runs q R 0 0 false (Nat.zero_le _) (Nat.le_refl _) (fun _ => rfl) r1 (fun d _ _ => by rw [r3, Bool.false_or])
          rw [← h1, Nat.sub_zero]
          rfl
        · subst g9
          obtain ⟨k1, k2, k3⟩ := plaw_at n (t.size : Int) (by omega) l _ _ a c (fun x hx => (s4 x hx).2) g8
          exact .inl ⟨k3, rfl, rfl, k1, k2⟩
end Go.Proofs.YtjmkhdhffmlhiaaDoor.PAll
end
