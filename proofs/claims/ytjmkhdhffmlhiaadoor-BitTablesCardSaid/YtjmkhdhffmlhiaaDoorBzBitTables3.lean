import Derived.Test.YtjmkhdhffmlhiaaDoorBzBitTables2
import Derived.Test.YtjmkhdhffmlhiaaDoorBzBitTables1
import Derived.SizedLaws
import Derived.Laws.Bits64b
import Derived.Lib.TrailingZeros
import Derived.WalkKit
import Derived.RangeFuncNested
import Derived.RangeFuncBound
import Derived.RangeFuncCalls
import Derived.RangeFuncLeaves
import Derived.RangeFuncBox
import Derived.Shelf.Abstract
import Derived.Shelf.RegionOpen
import Derived.OwnWalkIn
import Derived.TacticsInMore
import Derived.LoopNIn
import Derived.LoopIn
import Derived.RangeFuncFrom
import Derived.OrdersIn
import Derived.TacticsIn
import Derived.Lib.Hide
import Derived.StillTailTactics
import Derived.Laws.IdiomCopy
section
namespace Go.Proofs.YtjmkhdhffmlhiaaDoor.PAll
open Go.RowKit Go.Proofs.YtjmkhdhffmlhiaaDoorW.PrintWords Go.Proofs.YtjmkhdhffmlhiaaDoorW.PrintLast Go.Proofs.YtjmkhdhffmlhiaaDoorW.PrintMore
attribute [local go_sem] max2_int min2_int max_two min_two max_three min_three max_four min_four w64_u8 w64_mod256   -- for this text's walks alone
set_option linter.unusedVariables false
set_option linter.unusedSimpArgs false
def sloperef3_Of.l0 : Nat → List Bool → Int → Int → List Int → Option (Int × List Int)
  | 0, _, _, _, _ => none
  | k + 1, x0, x4, x106000, x106001 => if x4 < (x0.length : Int) then (if 0 ≤ x4 then (if rdOf false x0 x4 = true then (if 0 ≤ (wrap64 (Int.tdiv x4 64)) then (if (wrap64 (Int.tdiv x4 64)) < (x106001.length : Int) then (if 0 ≤ (IntKind.u64.wrap (Int.tmod x4 64)) then (sloperef3_Of.l0 k x0 (wrap64 (x4 + 1)) x106000 (x106001.set ((wrap64 (Int.tdiv x4 64)) : Int).toNat (Go.bits .or .u64 (rd x106001 (wrap64 (Int.tdiv x4 64))) (shl .u64 1 (IntKind.u64.wrap (Int.tmod x4 64)))))) else (none)) else (none)) else (none)) else (sloperef3_Of.l0 k x0 (wrap64 (x4 + 1)) x106000 x106001)) else (none)) else (some (x106000, x106001))
def sloperef3_Of.f (k : Nat) (l0 : List Bool) : Option (Int × List Int) := if 0 ≤ (wrap64 (Int.tdiv (wrap64 ((l0.length : Int) + 63)) 64)) then (if (wrap64 (Int.tdiv (wrap64 ((l0.length : Int) + 63)) 64) : Int).toNat ≤ 35184372088832 then (sloperef3_Of.l0 k l0 0 (l0.length : Int) (List.replicate (wrap64 (Int.tdiv (wrap64 ((l0.length : Int) + 63)) 64) : Int).toNat 0)) else (none)) else (none)
def sloperef3_Of.T6 : Bool × List (List Nat × List Nat) := (true, [([], []), ([0], [0]), ([], []), ([2], [2]), ([], []), ([4], [4]), ([], []), ([6], [6]), ([5, 7], [5, 7]), ([8], [8]), ([], []), ([10], [10]), ([11], [11]), ([12], [12]), ([9, 13], [9, 13]), ([1, 3, 0, 1, 2, 3, 4, 5, 6, 7, 8, 9, 10, 11, 12, 13, 14], [1, 3]), ([15, 14, 0, 1, 2, 3, 4, 5, 6, 7, 8, 9, 10, 11, 12, 13, 14], [14, 15])])
def sloperef3_Of.B6 : List Nat := [0, 1, 0, 4, 0, 16, 0, 64, 240, 496, 0, 1024, 3072, 7168, 16368, 32767, 65535]
theorem sloperef3_Of.tab6 : rtab .any (opsOf Tryd.f75 6) = sloperef3_Of.T6 := by kernel_rfl
theorem sloperef3_Of.bits6 : waitsOk sloperef3_Of.T6.2 sloperef3_Of.B6 = true := by kernel_rfl
set_option maxHeartbeats 8000000 in
set_option maxRecDepth 100000 in
theorem sloperef3_Of.calls (k : Nat) (A0 : Option Addr) (c0 : Nat) (l0 : List Bool) (r1 : Int) (r2 : List Int) (w : World) (hr0 : Kd.C Kd.bool w A0 l0.length l0) (hc0 : l0.length ≤ c0) (h : sloperef3_Of.f k l0 = some (r1, r2)) :
    Calls Tryd.prog 75 #[.slice A0 l0.length c0] w fun e w' => ∃ v1_ : Value, e = .returned (.agg #[.int .i64 r1, v1_]) ∧ Kd.R (Kd.int .u64) 87 w' w.heap.size (fun _ => True) v1_ r2 ∧ Below w.heap.size w w' := by
  have hu24 := Tryd.underlying24
  have HR0 := Aside0.mk hr0
  have HC0 := Aside0.mk hc0
  clear hr0 hc0
  have HB := Aside0.mk (Below.refl w.heap.size w)
  have H : (if 0 ≤ (wrap64 (Int.tdiv (wrap64 ((l0.length : Int) + 63)) 64)) then (if (wrap64 (Int.tdiv (wrap64 ((l0.length : Int) + 63)) 64) : Int).toNat ≤ 35184372088832 then (sloperef3_Of.l0 k l0 0 (l0.length : Int) (List.replicate (wrap64 (Int.tdiv (wrap64 ((l0.length : Int) + 63)) 64) : Int).toNat 0)) else (none)) else (none)) = some (r1, r2) := h
  clear h
  obtain ⟨ji2, hji2⟩ : ∃ j_ : Int, (wrap64 (Int.tdiv (wrap64 ((l0.length : Int) + 63)) 64)) = j_ := ⟨_, rfl⟩
  replace H : (if 0 ≤ (ji2) then (if (ji2 : Int).toNat ≤ 35184372088832 then (sloperef3_Of.l0 k l0 0 (l0.length : Int) (List.replicate (ji2 : Int).toNat 0)) else (none)) else (none)) = some (r1, r2) := by first | (rw [hji2] at H; exact H) | (simp only [hji2] at H ⊢; exact H)
  have hji2w : (IntKind.i64.wrap (Int.tdiv (wrap64 ((l0.length : Int) + 63)) 64)) = ji2 := (i64_w _).trans hji2
  by_cases c3 : 0 ≤ (ji2)
  · rw [if_pos c3] at H
    have c3b0 := eq_true c3
    have c3b1 : decide (0 ≤ (ji2)) = true := decide_eq_true c3
    clear c3
    by_cases c4 : (ji2 : Int).toNat ≤ 35184372088832
    · rw [if_pos c4] at H
      have c4b0 := eq_true c4
      have c4b1 : decide ((ji2 : Int).toNat ≤ 35184372088832) = true := decide_eq_true c4
      clear c4
      obtain ⟨y102, hy102⟩ : ∃ y_ : List Int, y_ = (List.replicate (ji2 : Int).toNat 0) := ⟨_, rfl⟩
      replace H : (sloperef3_Of.l0 k l0 0 (l0.length : Int) y102) = some (r1, r2) := by first | (rw [hy102]; with_reducible exact H) | (have H2_ := (Option.bind_some _ _).symm.trans H; rw [hy102]; with_reducible exact H2_) | (have H2_ := (Option.bind_some _ _).symm.trans H; with_reducible exact H2_) | with_reducible exact H | (rw [hy102]; exact H) | exact H
      have Ny102 := Aside0.mk hy102
      clear hy102
      have H' := Aside0.mk H
      clear H
      go_enter Tryd.func75, Tryd.ntmps75
      go_wp2_with (first | ((with_reducible refine gate_dst (N := 2) rfl ?_); refine box_event ?hg (N := 2) ?hd (cs := #[.int .i64 0, .slice none 0 0]) (t := 24) ?hr ?_; (case hd => rfl); (case hg => rfl); (case hr => first | (go_simp; done) | (go_simp; rfl)); intro gb101 hg w5 hbox hb; have n0_ := Aside0.mk (below_step (by repeat (first | (with_reducible first | exact HB.out | apply below_alloc | apply pw_below_drewN | apply below_drew1) | exact HB.out)) hb); have n1_ := Aside0.mk (hbox); have n2_ := Aside0.mk ((by rw [hg]; exact (below_size (by repeat (first | (with_reducible first | exact HB.out | apply below_alloc | apply pw_below_drewN | apply below_drew1) | exact HB.out))) : w.heap.size ≤ gb101)); have n3_ := Aside0.mk ((by rw [hg]; exact (below_size (by repeat (first | (with_reducible first | exact HB.out | apply below_alloc | apply pw_below_drewN | apply below_drew1) | exact HB.out))) : w.heap.size ≤ gb101)); clear HB; have HB := n0_; have BK101 := n1_; have GW101 := n2_; have GE101 := n3_; clear n0_ n1_ n2_ n3_; clear hb hbox hg) | ((with_reducible refine gate_dst (N := 11) rfl ?_); refine Kd.R_make (Kd.int .u64) _ 87 rfl (N := 11) rfl 22 _ _ rfl ji2 rfl rfl Tryd.underlying22 (.int .u64 0) 8 info87 rfl (by decide) (by omega) 0 (ok := fun _ => True) (okp := fun _ => True) rfl (fun _ hk => hk) trivial (of_decide_eq_true (by first | (with_reducible assumption) | assumption)) (Nat.le_trans (Nat.mul_le_mul_right _ (of_decide_eq_true (by first | (with_reducible assumption) | assumption) : ji2.toNat ≤ 35184372088832)) (by omega)) (Below.refl _ _) (Nat.le_refl _) ?_; intro v103 w6 ho7 hb hg_ hnew_; clear hg_ hnew_; (first | rw [← Ny102.out] at ho7 | (simp only [Int.reduceToNat] at ho7; rw [← Ny102.out] at ho7)); have n0_ := Aside0.mk (Kd.R_lower ho7 (below_size (by repeat (first | (with_reducible first | exact HB.out | apply below_alloc | apply pw_below_drewN | apply below_drew1 | refine below_set ?_ GE101.out) | exact HB.out)))); have n1_ := Aside0.mk (blk_below (g := gb101) (o := .cells #[.int .i64 0, .slice none 0 0] 24 (0, 0)) (by (with_reducible repeat (first | refine blk_drewN ?_ _ | refine blk_drew ?_ | refine blk_alloc ?_ _)); exact BK101.out) hb); have n2_ := Aside0.mk (below_step (by repeat (first | (with_reducible first | exact HB.out | apply below_alloc | apply pw_below_drewN | apply below_drew1 | refine below_set ?_ GE101.out) | exact HB.out)) hb); clear BK101; clear HB; have HO104 := n0_; have BK101 := n1_; have HB := n2_; clear n0_ n1_ n2_; clear hb ho7; obtain ⟨Ao8, co8, eo8⟩ := Kd.R_slice HO104.out; subst eo8) | ((with_reducible refine gate_dst (N := 3) rfl ?_); refine box_event ?hg (N := 3) ?hd (cs := #[.int .i64 0, .slice none 0 0]) (t := 24) ?hr ?_; (case hd => rfl); (case hg => rfl); (case hr => first | (go_simp; done) | (go_simp; rfl)); intro gb105 hg w9 hbox hb; have n0_ := Aside0.mk (Kd.R_below (by (with_reducible repeat (first | apply Kd.R_alloc | apply Kd.R_drewN | apply Kd.R_drew)); exact HO104.out) hb); have n1_ := Aside0.mk (blk_below (g := gb101) (o := .cells #[.int .i64 0, .slice none 0 0] 24 (0, 0)) (by (with_reducible repeat (first | refine blk_drewN ?_ _ | refine blk_drew ?_ | refine blk_alloc ?_ _)); exact BK101.out) hb); have n2_ := Aside0.mk (below_step (by repeat (first | (with_reducible first | exact HB.out | apply below_alloc | apply pw_below_drewN | apply below_drew1 | refine below_set ?_ GE101.out) | exact HB.out)) hb); have n3_ := Aside0.mk (hbox); have n4_ := Aside0.mk ((by rw [hg]; exact (below_size (by repeat (first | (with_reducible first | exact HB.out | apply below_alloc | apply pw_below_drewN | apply below_drew1 | refine below_set ?_ GE101.out) | exact HB.out))) : w.heap.size ≤ gb105)); have n5_ := Aside0.mk ((by rw [hg]; exact (below_size (by repeat (first | (with_reducible first | exact HB.out | apply below_alloc | apply pw_below_drewN | apply below_drew1 | refine below_set ?_ GE101.out) | exact HB.out))) : w.heap.size ≤ gb105)); have n6_ := Aside0.mk ((by rw [hg]; exact Nat.ne_of_lt (blk_lt (g := gb101) (o := .cells #[.int .i64 0, .slice none 0 0] 24 (0, 0)) (by (with_reducible repeat (first | refine blk_drewN ?_ _ | refine blk_drew ?_ | refine blk_alloc ?_ _)); exact BK101.out)) : gb101 ≠ gb105)); have n7_ := Aside0.mk ((by rw [hg]; exact Nat.ne_of_gt (blk_lt (g := gb101) (o := .cells #[.int .i64 0, .slice none 0 0] 24 (0, 0)) (by (with_reducible repeat (first | refine blk_drewN ?_ _ | refine blk_drew ?_ | refine blk_alloc ?_ _)); exact BK101.out)) : gb105 ≠ gb101)); clear HO104; clear BK101; clear HB; have HO104 := n0_; have BK101 := n1_; have HB := n2_; have BK105 := n3_; have GW105 := n4_; have GE105 := n5_; have NB101_105 := n6_; have NB105_101 := n7_; clear n0_ n1_ n2_ n3_ n4_ n5_ n6_ n7_; clear hb hbox hg; have hnb10 := NB105_101.out; have hnc10 := NB101_105.out; have hcz11_0 : w9.cell? ⟨gb105, 0, none⟩ = some (.int .i64 0) := (blk_cell BK105.out 0).trans rfl; have hcz11_1 : w9.cell? ⟨gb105, 1, none⟩ = some (.slice none 0 0) := (blk_cell BK105.out 1).trans rfl; have hfz11_0 := blk_frozen BK105.out 0; have hfz11_1 := blk_frozen BK105.out 1))
      go_loopg [4] k (fun kq v4 w' => ∃ (x4_1 : Int) (x106001_1 : List Int) (u106001 : Value), v4 = .int .i64 x4_1 ∧ Aside0 (sloperef3_Of.l0 kq l0 x4_1 (l0.length : Int) x106001_1 = some (r1, r2)) ∧ Aside0 (kq ≤ k) ∧ Aside0 (Kd.R (Kd.int .u64) 87 w' w.heap.size (fun _ => True) u106001 x106001_1) ∧ Aside0 (w'.heap[gb101]? = some (.cells #[.int .i64 0, (.slice none 0 0)] 24 (0, 0))) ∧ Aside0 (w'.heap[gb105]? = some (.cells #[.int .i64 (l0.length : Int), u106001] 24 (0, 0))) ∧ Aside0 (Below w.heap.size w w'))
      case atStart => exact ⟨(0), (y102), (.slice Ao8 y102.length co8), (by first | rfl | (simp; done) | (simp [*]; done)), H', ⟨Nat.le_refl _⟩, ⟨by (with_reducible repeat (first | apply Kd.R_alloc | apply Kd.R_drewN | apply Kd.R_drew)); exact Kd.R_mono (Kd.R_far (p := ⟨gb105, 1, none⟩) (Kd.R_far (p := ⟨gb105, 0, none⟩) (Kd.R_types HO104.out BK105.out (by decide)) (fun _ hk => hk.2) (.int .i64 (l0.length : Int))) (fun _ hk => hk.2) (.slice Ao8 y102.length co8)) (fun _ hk => trivial)⟩, ⟨by (with_reducible repeat (first | refine blk_drewN ?_ _ | refine blk_drew ?_ | refine blk_alloc ?_ _)); refine blk_far ?_ NB101_105.out _; (with_reducible repeat (first | refine blk_drewN ?_ _ | refine blk_drew ?_ | refine blk_alloc ?_ _)); refine blk_far ?_ NB101_105.out _; (with_reducible repeat (first | refine blk_drewN ?_ _ | refine blk_drew ?_ | refine blk_alloc ?_ _)); exact BK101.out⟩, ⟨by (with_reducible repeat (first | refine blk_drewN ?_ _ | refine blk_drew ?_ | refine blk_alloc ?_ _)); refine blk_put (cs := #[.int .i64 (l0.length : Int), .slice none 0 0]) ?_ 1 _ rfl; (with_reducible repeat (first | refine blk_drewN ?_ _ | refine blk_drew ?_ | refine blk_alloc ?_ _)); refine blk_put (cs := #[.int .i64 0, .slice none 0 0]) ?_ 0 _ rfl; (with_reducible repeat (first | refine blk_drewN ?_ _ | refine blk_drew ?_ | refine blk_alloc ?_ _)); exact BK105.out⟩, ⟨by repeat (first | (with_reducible first | exact HB.out | apply below_alloc | apply pw_below_drewN | apply below_drew1 | refine below_set ?_ GE101.out | refine below_set ?_ GE105.out) | exact HB.out)⟩⟩
      case round =>
        clear H'
        try clear c1
        try clear p2
        try clear c3
        try clear c3b0
        try clear c3b1
        try clear c4
        try clear c4b0
        try clear c4b1
        try clear p6
        try clear c7
        try clear c10
        try clear hcz11_0
        try clear hcz11_1
        try clear hfz11_0
        try clear hfz11_1
        obtain ⟨x4_1, x106001_1, u106001, rfl, HA, HK1, HO_106001, BK101, BK105, HB⟩ := hrel
        cases gk with
        | zero => exact absurd HA.out (by simp [sloperef3_Of.l0])
        | succ k1 =>
          have H := HA.out
          clear HA
          simp only [sloperef3_Of.l0] at H
          by_cases c12 : x4_1 < (l0.length : Int)
          · rw [if_pos c12] at H
            have c12b0 : decide (x4_1 < (l0.length : Int)) = true := decide_eq_true c12
            clear c12
            by_cases c13 : 0 ≤ x4_1
            · rw [if_pos c13] at H
              have c13b0 : decide (0 ≤ x4_1) = true := decide_eq_true c13
              clear c13
              obtain ⟨bq14, hbq14⟩ : ∃ b_ : Bool, b_ = (rdOf false l0 x4_1) := ⟨_, rfl⟩
              replace H : (if bq14 = true then (if 0 ≤ (wrap64 (Int.tdiv x4_1 64)) then (if (wrap64 (Int.tdiv x4_1 64)) < (x106001_1.length : Int) then (if 0 ≤ (IntKind.u64.wrap (Int.tmod x4_1 64)) then (sloperef3_Of.l0 k1 l0 (wrap64 (x4_1 + 1)) (l0.length : Int) (x106001_1.set ((wrap64 (Int.tdiv x4_1 64)) : Int).toNat (Go.bits .or .u64 (rd x106001_1 (wrap64 (Int.tdiv x4_1 64))) (shl .u64 1 (IntKind.u64.wrap (Int.tmod x4_1 64)))))) else (none)) else (none)) else (none)) else (sloperef3_Of.l0 k1 l0 (wrap64 (x4_1 + 1)) (l0.length : Int) x106001_1)) = some (r1, r2) := by rw [← hbq14] at H; exact H
              have Nbq14 := Aside0.mk hbq14
              clear hbq14
              by_cases c15 : bq14 = true
              · subst c15
                have H1 : (if 0 ≤ (wrap64 (Int.tdiv x4_1 64)) then (if (wrap64 (Int.tdiv x4_1 64)) < (x106001_1.length : Int) then (if 0 ≤ (IntKind.u64.wrap (Int.tmod x4_1 64)) then (sloperef3_Of.l0 k1 l0 (wrap64 (x4_1 + 1)) (l0.length : Int) (x106001_1.set ((wrap64 (Int.tdiv x4_1 64)) : Int).toNat (Go.bits .or .u64 (rd x106001_1 (wrap64 (Int.tdiv x4_1 64))) (shl .u64 1 (IntKind.u64.wrap (Int.tmod x4_1 64)))))) else (none)) else (none)) else (none)) = some (r1, r2) := by rw [if_pos rfl] at H; exact H
                clear H
                have H := H1
                clear H1
                obtain ⟨ji16, hji16⟩ : ∃ j_ : Int, (wrap64 (Int.tdiv x4_1 64)) = j_ := ⟨_, rfl⟩
                replace H : (if 0 ≤ (ji16) then (if (ji16) < (x106001_1.length : Int) then (if 0 ≤ (IntKind.u64.wrap (Int.tmod x4_1 64)) then (sloperef3_Of.l0 k1 l0 (wrap64 (x4_1 + 1)) (l0.length : Int) (x106001_1.set ((ji16) : Int).toNat (Go.bits .or .u64 (rd x106001_1 (ji16)) (shl .u64 1 (IntKind.u64.wrap (Int.tmod x4_1 64)))))) else (none)) else (none)) else (none)) = some (r1, r2) := by first | (rw [hji16] at H; exact H) | (simp only [hji16] at H ⊢; exact H)
                have hji16w : (IntKind.i64.wrap (Int.tdiv x4_1 64)) = ji16 := (i64_w _).trans hji16
                by_cases c17 : 0 ≤ (ji16)
                · rw [if_pos c17] at H
                  have c17b0 : decide (0 ≤ (ji16)) = true := decide_eq_true c17
                  clear c17
                  by_cases c18 : (ji16) < (x106001_1.length : Int)
                  · rw [if_pos c18] at H
                    have c18b0 : decide ((ji16) < (x106001_1.length : Int)) = true := decide_eq_true c18
                    clear c18
                    obtain ⟨ji19, hji19⟩ : ∃ j_ : Int, (IntKind.u64.wrap (Int.tmod x4_1 64)) = j_ := ⟨_, rfl⟩
                    replace H : (if 0 ≤ (ji19) then (sloperef3_Of.l0 k1 l0 (wrap64 (x4_1 + 1)) (l0.length : Int) (x106001_1.set ((ji16) : Int).toNat (Go.bits .or .u64 (rd x106001_1 (ji16)) (shl .u64 1 (ji19))))) else (none)) = some (r1, r2) := by first | (rw [hji19] at H; exact H) | (simp only [hji19] at H ⊢; exact H)
                    by_cases c20 : 0 ≤ (ji19)
                    · rw [if_pos c20] at H
                      have c20b0 := eq_true c20
                      have c20b1 : decide (0 ≤ (ji19)) = true := decide_eq_true c20
                      clear c20
                      obtain ⟨ji21, hji21⟩ : ∃ j_ : Int, (shl .u64 1 (ji19)) = j_ := ⟨_, rfl⟩
                      replace H : (sloperef3_Of.l0 k1 l0 (wrap64 (x4_1 + 1)) (l0.length : Int) (x106001_1.set ((ji16) : Int).toNat (Go.bits .or .u64 (rd x106001_1 (ji16)) (ji21)))) = some (r1, r2) := by first | (rw [hji21] at H; exact H) | (simp only [hji21] at H ⊢; exact H)
                      have hji21_ : (IntKind.u64.wrap (1 * 2 ^ min (ji19).toNat 64)) = ji21 := hji21
                      have hji21z : (ji19) ≤ 64 → (IntKind.u64.wrap (1 * 2 ^ (ji19).toNat)) = ji21 := shl_small hji21
                      have hji21u : (IntKind.u64.wrap (2 ^ min (ji19).toNat 64)) = ji21 := by have h_ := hji21_; rw [Int.one_mul] at h_; exact h_
                      have hji21v : (ji19) ≤ 64 → (IntKind.u64.wrap (2 ^ (ji19).toNat)) = ji21 := fun hle_ => by have h_ := hji21z hle_; rw [Int.one_mul] at h_; exact h_
                      obtain ⟨y108, hy108⟩ : ∃ y_ : List Int, y_ = (x106001_1.set ((ji16) : Int).toNat (Go.bits .or .u64 (rd x106001_1 (ji16)) (ji21))) := ⟨_, rfl⟩
                      replace H : (sloperef3_Of.l0 k1 l0 (wrap64 (x4_1 + 1)) (l0.length : Int) y108) = some (r1, r2) := by first | (rw [hy108]; with_reducible exact H) | (have H2_ := (Option.bind_some _ _).symm.trans H; rw [hy108]; with_reducible exact H2_) | (have H2_ := (Option.bind_some _ _).symm.trans H; with_reducible exact H2_) | with_reducible exact H | (rw [hy108]; exact H) | exact H
                      have Ny108 := Aside0.mk hy108
                      clear hy108
                      have H' := Aside0.mk H
                      clear H
                      have p106 : 0 ≤ (x4_1 : Int) := of_decide_eq_true (by first | (with_reducible assumption) | assumption)
                      have q106 : x4_1 < (l0.length : Int) := of_decide_eq_true (by first | (with_reducible assumption) | assumption)
                      obtain ⟨ad106, e106, hx106_0⟩ := Kd.at_bool HR0.out x4_1 p106 q106
                      (try rw [← Nbq14.out] at hx106_0)
                      cases e106
                      replace hx106_0 := (HB.out.cell (World.block_lt_of_cell? w _ hx106_0)).trans hx106_0
                      replace p106 := eq_true p106
                      replace q106 := eq_true q106
                      try go_wp2
                      have n0_ := Aside0.mk (Kd.R_drew HO_106001.out)
                      have n1_ := Aside0.mk (blk_drew BK101.out)
                      have n2_ := Aside0.mk (blk_drew BK105.out)
                      have n3_ := Aside0.mk (below_drew1 HB.out)
                      clear HO_106001
                      clear BK101
                      clear BK105
                      clear HB
                      have HO_106001 := n0_
                      have BK101 := n1_
                      have BK105 := n2_
                      have HB := n3_
                      clear n0_ n1_ n2_ n3_
                      obtain ⟨Ao24, co24, eo24⟩ := Kd.R_slice HO_106001.out
                      (first | subst eo24 | (injection eo24 with f1_ f2_ f3_; have f4_ := f1_.symm; have f5_ := f3_.symm; clear f1_ f2_ f3_; subst f4_; subst f5_))
                      have p107 : 0 ≤ ((ji16) : Int) := of_decide_eq_true (by first | (with_reducible assumption) | assumption)
                      have q107 : (ji16) < (x106001_1.length : Int) := of_decide_eq_true (by first | (with_reducible assumption) | assumption)
                      obtain ⟨ad107, e107, hx107_0⟩ := Kd.at_int (Kd.R_reads' HO_106001.out).2.2 (ji16) p107 q107
                      cases e107
                      replace p107 := eq_true p107
                      replace q107 := eq_true q107
                      have p22 : 0 ≤ ((ji16) : Int) := of_decide_eq_true (by first | (with_reducible assumption) | assumption)
                      have q22 : ((ji16) : Int) < ((x106001_1.length : Int) : Int) := of_decide_eq_true (by first | (with_reducible assumption) | assumption)
                      obtain ⟨go22, co22, eo22, gb22, gl22, cl22, HG22⟩ := Kd.R_form HO_106001.out (by omega)
                      (first | cases eo22 | (injection eo22 with ea_ en_ ec_; (first | subst ea_ | (injection ea_ with ea_; subst ea_)); subst ec_; clear en_))
                      have GB22 := Aside0.mk gb22
                      have GG22 := Aside0.mk HG22
                      clear gb22 gl22 HG22
                      (first | simp only [add_plain] at hx107_0 | skip)
                      obtain ⟨hx22_0, hf22_0⟩ := Kd.R_celln 0 HO_106001.out ((ji16) : Int) p22 q22
                      replace p22 := eq_true p22
                      replace q22 := eq_true q22
                      have HP25 := Kd.R_putn HO_106001.out ((ji16) : Int) (Go.bits .or .u64 (rd x106001_1 (ji16)) (ji21))
                      rw [← Ny108.out] at HP25
                      have HQ25 := Aside0.mk HP25
                      clear HP25
                      refine start_ (n := 17) (S := fun w' => w'.cell? ⟨gb105, 0, none⟩ = some (.int .i64 (l0.length : Int)) ∧ w'.cell? ⟨gb105, 1, none⟩ = some (.slice (some ⟨go22, 0, none⟩) x106001_1.length co24) ∧ w'.cell? ⟨go22, ((ji16)).toNat, none⟩ = some (.int .u64 (rd x106001_1 (ji16)))) (ds := [16]) #[false, false, false, false, false, false, false, false, false, false, false, false, false, false, false, false, false] (by kernel_rfl) rfl rfl ⟨(blk_cell BK105.out 0).trans rfl, (blk_cell BK105.out 1).trans rfl, hx107_0⟩ (fun hHeld => ?_); refine with_tabW sloperef3_Of.tab6 sloperef3_Of.bits6 (fun HT_ HW_ => ?_)
                      generalize wr.drew = w23 at HO_106001 BK101 BK105 HB GG22 HQ25 hf22_0 hx107_0 hx22_0 hHeld ⊢
                      refine pure_ (i := 0) (N := some 23) (v := ?_) (a' := ?_) #[true, false, false, false, false, false, false, false, false, false, false, false, false, false, false, false, false] rfl rfl (any_of HT_.out (by kernel_rfl)) (fun _ _ _ h => h) (Or.inl ⟨by rfl, ?_⟩) ?_ ?_
                      rotate_left
                      · intro w'
                        go_simp
                        with_reducible rfl
                      rotate_left
                      · simp only [Act.put, List.setIfInBounds_toArray, List.set_cons_zero, List.set_cons_succ, i64_w, i32_w]
                        rfl
                      refine pure_ (i := 2) (N := some 25) (v := ?_) (a' := ?_) #[true, false, true, false, false, false, false, false, false, false, false, false, false, false, false, false, false] rfl rfl (any_of HT_.out (by kernel_rfl)) (fun _ _ _ h => h) (Or.inl ⟨by rfl, ?_⟩) ?_ ?_
                      rotate_left
                      · intro w'
                        go_simp
                        with_reducible rfl
                      rotate_left
                      · simp only [Act.put, List.setIfInBounds_toArray, List.set_cons_zero, List.set_cons_succ, i64_w, i32_w]
                        rfl
                      refine pure_ (i := 3) (N := some 26) (v := ?_) (a' := ?_) #[true, false, true, true, false, false, false, false, false, false, false, false, false, false, false, false, false] rfl rfl (any_of HT_.out (by kernel_rfl)) (fun _ _ _ h => h) (Or.inl ⟨by rfl, ?_⟩) ?_ ?_
                      rotate_left
                      · intro w'
                        go_simp
                        with_reducible rfl
                      rotate_left
                      · simp only [Act.put, List.setIfInBounds_toArray, List.set_cons_zero, List.set_cons_succ, i64_w, i32_w]
                        rfl
                      refine pure_ (i := 4) (N := some 27) (v := ?_) (a' := ?_) #[true, false, true, true, true, false, false, false, false, false, false, false, false, false, false, false, false] rfl rfl (any_of HT_.out (by kernel_rfl)) (fun _ _ _ h => h) (Or.inl ⟨by rfl, ?_⟩) ?_ ?_
                      rotate_left
                      · intro w'
                        go_simp
                        with_reducible rfl
                      rotate_left
                      · simp only [Act.put, List.setIfInBounds_toArray, List.set_cons_zero, List.set_cons_succ, i64_w, i32_w]
                        rfl
                      refine pure_ (i := 6) (N := some 29) (v := ?_) (a' := ?_) #[true, false, true, true, true, false, true, false, false, false, false, false, false, false, false, false, false] rfl rfl (any_of HT_.out (by kernel_rfl)) (fun _ _ _ h => h) (Or.inl ⟨by rfl, ?_⟩) ?_ ?_
                      rotate_left
                      · intro w'
                        go_simp
                        with_reducible rfl
                      rotate_left
                      · simp only [Act.put, List.setIfInBounds_toArray, List.set_cons_zero, List.set_cons_succ, i64_w, i32_w]
                        rfl
                      refine pure_ (i := 7) (N := some 30) (v := ?_) (a' := ?_) #[true, false, true, true, true, false, true, true, false, false, false, false, false, false, false, false, false] rfl rfl (any_of HT_.out (by kernel_rfl)) (fun _ _ _ h => h) (Or.inl ⟨by rfl, ?_⟩) ?_ ?_
                      rotate_left
                      · intro w'
                        go_simp
                        with_reducible rfl
                      rotate_left
                      · simp only [Act.put, List.setIfInBounds_toArray, List.set_cons_zero, List.set_cons_succ, i64_w, i32_w]
                        rfl
                      refine pure_ (i := 10) (N := some 33) (v := ?_) (a' := ?_) #[true, false, true, true, true, false, true, true, false, false, true, false, false, false, false, false, false] rfl rfl (any_of HT_.out (by kernel_rfl)) (fun _ _ _ h => h) (Or.inl ⟨by rfl, ?_⟩) ?_ ?_
                      rotate_left
                      · intro w'
                        go_simp
                        with_reducible rfl
                      rotate_left
                      · simp only [Act.put, List.setIfInBounds_toArray, List.set_cons_zero, List.set_cons_succ, i64_w, i32_w]
                        rfl
                      refine pure_ (i := 11) (N := some 34) (v := ?_) (a' := ?_) #[true, false, true, true, true, false, true, true, false, false, true, true, false, false, false, false, false] rfl rfl (any_of HT_.out (by kernel_rfl)) (fun _ _ _ h => h) (Or.inl ⟨by rfl, ?_⟩) ?_ ?_
                      rotate_left
                      · intro w'
                        go_simp
                        with_reducible rfl
                      rotate_left
                      · simp only [Act.put, List.setIfInBounds_toArray, List.set_cons_zero, List.set_cons_succ, i64_w, i32_w]
                        rfl
                      refine pure_ (i := 12) (N := some 35) (v := ?_) (a' := ?_) #[true, false, true, true, true, false, true, true, false, false, true, true, true, false, false, false, false] rfl rfl (any_of HT_.out (by kernel_rfl)) (fun _ _ _ h => h) (Or.inl ⟨by rfl, ?_⟩) ?_ ?_
                      rotate_left
                      · intro w'
                        go_simp
                        with_reducible rfl
                      rotate_left
                      · simp only [Act.put, List.setIfInBounds_toArray, List.set_cons_zero, List.set_cons_succ, i64_w, i32_w]
                        rfl
                      refine pure_ (i := 13) (N := some 36) (v := ?_) (a' := ?_) #[true, false, true, true, true, false, true, true, false, false, true, true, true, true, false, false, false] rfl rfl (any_of HT_.out (by kernel_rfl)) (fun _ _ _ h => h) (Or.inl ⟨by rfl, ?_⟩) ?_ ?_
                      rotate_left
                      · intro w'
                        go_simp
                        with_reducible rfl
                      rotate_left
                      · simp only [Act.put, List.setIfInBounds_toArray, List.set_cons_zero, List.set_cons_succ, i64_w, i32_w]
                        rfl
                      refine take_ (i := 1) (N := some 24) (v := ?_) (a' := ?_) #[true, true, true, true, true, false, true, true, false, false, true, true, true, true, false, false, false] rfl rfl (take_ofW HT_.out HW_.out (by kernel_rfl)) (fun _ _ _ h => h) (Or.inl ⟨by rfl, ?_⟩) hHeld ?_ ?_
                      rotate_left
                      · rintro w' ⟨s0, s1, s2⟩
                        go_simp
                        with_reducible rfl
                      rotate_left
                      · simp only [Act.put, List.setIfInBounds_toArray, List.set_cons_zero, List.set_cons_succ, i64_w, i32_w]
                        rfl
                      refine take_ (i := 5) (N := some 28) (v := ?_) (a' := ?_) #[true, true, true, true, true, true, true, true, false, false, true, true, true, true, false, false, false] rfl rfl (take_ofW HT_.out HW_.out (by kernel_rfl)) (fun _ _ _ h => h) (Or.inl ⟨by rfl, ?_⟩) hHeld ?_ ?_
                      rotate_left
                      · rintro w' ⟨s0, s1, s2⟩
                        go_simp
                        with_reducible rfl
                      rotate_left
                      · simp only [Act.put, List.setIfInBounds_toArray, List.set_cons_zero, List.set_cons_succ, i64_w, i32_w]
                        rfl
                      refine pure_ (i := 8) (N := some 31) (v := ?_) (a' := ?_) #[true, true, true, true, true, true, true, true, true, false, true, true, true, true, false, false, false] rfl rfl (any_of HT_.out (by kernel_rfl)) (fun _ _ _ h => h) (Or.inl ⟨by rfl, ?_⟩) ?_ ?_
                      rotate_left
                      · intro w'
                        go_simp
                        with_reducible rfl
                      rotate_left
                      · simp only [Act.put, List.setIfInBounds_toArray, List.set_cons_zero, List.set_cons_succ, i64_w, i32_w]
                        rfl
                      refine take_ (i := 9) (N := some 32) (v := ?_) (a' := ?_) #[true, true, true, true, true, true, true, true, true, true, true, true, true, true, false, false, false] rfl rfl (take_ofW HT_.out HW_.out (by kernel_rfl)) (fun _ _ _ h => h) (Or.inl ⟨by rfl, ?_⟩) hHeld ?_ ?_
                      rotate_left
                      · rintro w' ⟨s0, s1, s2⟩
                        go_simp
                        with_reducible rfl
                      rotate_left
                      · simp only [Act.put, List.setIfInBounds_toArray, List.set_cons_zero, List.set_cons_succ, i64_w, i32_w]
                        rfl
                      refine pure_ (i := 14) (N := some 37) (v := ?_) (a' := ?_) #[true, true, true, true, true, true, true, true, true, true, true, true, true, true, true, false, false] rfl rfl (any_of HT_.out (by kernel_rfl)) (fun _ _ _ h => h) (Or.inl ⟨by rfl, ?_⟩) ?_ ?_
                      rotate_left
                      · intro w'
                        go_simp
                        with_reducible rfl
                      rotate_left
                      · simp only [Act.put, List.setIfInBounds_toArray, List.set_cons_zero, List.set_cons_succ, i64_w, i32_w]
                        rfl
                      refine pure_ (i := 15) (N := some 38) (v := ?_) (a' := ?_) #[true, true, true, true, true, true, true, true, true, true, true, true, true, true, true, true, false] rfl rfl (any_of HT_.out (by kernel_rfl)) (fun _ _ _ h => h) (Or.inl ⟨by rfl, ?_⟩) ?_ ?_
                      rotate_left
                      · intro w'
                        go_simp
                        with_reducible rfl
                      rotate_left
                      · simp only [Act.put, List.setIfInBounds_toArray, List.set_cons_zero, List.set_cons_succ, i64_w, i32_w]
                        rfl
                      refine last_ (i := 16) (N := none) #[true, true, true, true, true, true, true, true, true, true, true, true, true, true, true, true, true] rfl rfl (one_of HT_.out (by kernel_rfl)) (by decide) (fun K hK => ?_)
                      refine skip_ (w1 := ?_) (by rfl) rfl ?_ ?_
                      rotate_left
                      · go_simp
                        rfl
                      refine hK.out _ _ ?_
                      clear hK K
                      refine done_ (done_of HT_.out (by kernel_rfl)) ?_
                      try go_wp2
                      go_roundg k1
                      case measure => have := HK1.out; omega
                      case rel => exact ⟨(wrap64 (x4_1 + 1)), (y108), (.slice (some ⟨go22, 0, none⟩) x106001_1.length co24), (by first | rfl | (simp; done) | (simp [*]; done)), H', ⟨by have := HK1.out; omega⟩, ⟨by (with_reducible repeat (first | apply Kd.R_alloc | apply Kd.R_drewN | apply Kd.R_drew)); exact HQ25.out⟩, ⟨by (with_reducible repeat (first | refine blk_drewN ?_ _ | refine blk_drew ?_ | refine blk_alloc ?_ _)); refine blk_far ?_ (by have h_ := Kd.R_ne HO_106001.out BK101.out (by decide); intro e_; exact h_ (by rw [e_]; rfl)) _; (with_reducible repeat (first | refine blk_drewN ?_ _ | refine blk_drew ?_ | refine blk_alloc ?_ _)); exact BK101.out⟩, ⟨by (with_reducible repeat (first | refine blk_drewN ?_ _ | refine blk_drew ?_ | refine blk_alloc ?_ _)); refine blk_far ?_ (by have h_ := Kd.R_ne HO_106001.out BK105.out (by decide); intro e_; exact h_ (by rw [e_]; rfl)) _; (with_reducible repeat (first | refine blk_drewN ?_ _ | refine blk_drew ?_ | refine blk_alloc ?_ _)); exact BK105.out⟩, ⟨by repeat (first | (with_reducible first | exact HB.out | apply below_alloc | apply pw_below_drewN | apply below_drew1 | refine below_set ?_ GB22.out | refine below_set ?_ GE101.out | refine below_set ?_ GE105.out) | exact HB.out)⟩⟩
                    · rw [if_neg c20] at H
                      exact absurd H (by simp)
                  · rw [if_neg c18] at H
                    exact absurd H (by simp)
                · rw [if_neg c17] at H
                  exact absurd H (by simp)
              · replace c15 := Bool.eq_false_iff.mpr c15
                subst c15
                have H1 : (sloperef3_Of.l0 k1 l0 (wrap64 (x4_1 + 1)) (l0.length : Int) x106001_1) = some (r1, r2) := by rw [if_neg (show ¬ (false = true) by decide)] at H; exact H
                clear H
                have H := H1
                clear H1
                have H' := Aside0.mk H
                clear H
                have p106 : 0 ≤ (x4_1 : Int) := of_decide_eq_true (by first | (with_reducible assumption) | assumption)
                have q106 : x4_1 < (l0.length : Int) := of_decide_eq_true (by first | (with_reducible assumption) | assumption)
                obtain ⟨ad106, e106, hx106_0⟩ := Kd.at_bool HR0.out x4_1 p106 q106
                (try rw [← Nbq14.out] at hx106_0)
                cases e106
                replace hx106_0 := (HB.out.cell (World.block_lt_of_cell? w _ hx106_0)).trans hx106_0
                replace p106 := eq_true p106
                replace q106 := eq_true q106
                go_wp2
                go_roundg k1
                case measure => have := HK1.out; omega
                case rel => exact ⟨(wrap64 (x4_1 + 1)), (x106001_1), (u106001), (by first | rfl | (simp; done) | (simp [*]; done)), H', ⟨by have := HK1.out; omega⟩, ⟨by (with_reducible repeat (first | apply Kd.R_alloc | apply Kd.R_drewN | apply Kd.R_drew)); exact HO_106001.out⟩, ⟨by (with_reducible repeat (first | refine blk_drewN ?_ _ | refine blk_drew ?_ | refine blk_alloc ?_ _)); exact BK101.out⟩, ⟨by (with_reducible repeat (first | refine blk_drewN ?_ _ | refine blk_drew ?_ | refine blk_alloc ?_ _)); exact BK105.out⟩, ⟨by repeat (first | (with_reducible first | exact HB.out | apply below_alloc | apply pw_below_drewN | apply below_drew1 | refine below_set ?_ GE101.out | refine below_set ?_ GE105.out) | exact HB.out)⟩⟩
            · rw [if_neg c13] at H
              exact absurd H (by simp)
          · rw [if_neg c12] at H
            have c12b0 : decide (x4_1 < (l0.length : Int)) = false := decide_eq_false c12
            clear c12
            simp only [Option.some.injEq, Prod.mk.injEq] at H
            obtain ⟨rfl, rfl⟩ := H
            have hnb26 := NB105_101.out
            have hnc26 := NB101_105.out
            have hcz27_0 : wr.cell? ⟨gb105, 0, none⟩ = some (.int .i64 (l0.length : Int)) := (blk_cell BK105.out 0).trans rfl
            have hcz27_1 : wr.cell? ⟨gb105, 1, none⟩ = some (u106001) := (blk_cell BK105.out 1).trans rfl
            have hfz27_0 := blk_frozen BK105.out 0
            have hfz27_1 := blk_frozen BK105.out 1
            have hcz28_0 : wr.cell? ⟨gb101, 0, none⟩ = some (.int .i64 0) := (blk_cell BK101.out 0).trans rfl
            have hcz28_1 : wr.cell? ⟨gb101, 1, none⟩ = some (.slice none 0 0) := (blk_cell BK101.out 1).trans rfl
            have hfz28_0 := blk_frozen BK101.out 0
            have hfz28_1 := blk_frozen BK101.out 1
            obtain ⟨Ao29, co29, eo29⟩ := Kd.R_slice HO_106001.out
            subst eo29
            go_wp2
            refine bodyPost_ret (results_cell_row rfl _ _ gb101 24 #[.int .i64 (l0.length : Int), .slice Ao29 x106001_1.length co29] (0, 0) _ rfl (by (with_reducible repeat (first | refine blk_drewN ?_ _ | refine blk_drew ?_ | refine blk_alloc ?_ _)); refine blk_put (cs := #[.int .i64 (l0.length : Int), .slice none 0 0]) ?_ 1 _ rfl; (with_reducible repeat (first | refine blk_drewN ?_ _ | refine blk_drew ?_ | refine blk_alloc ?_ _)); refine blk_put (cs := #[.int .i64 0, .slice none 0 0]) ?_ 0 _ rfl; (with_reducible repeat (first | refine blk_drewN ?_ _ | refine blk_drew ?_ | refine blk_alloc ?_ _)); exact BK101.out) Tryd.underlying24 rfl (by kernel_rfl)) rfl ?_
            exact ⟨_, by first | rfl | (simp [errW_none, errW_some] <;> rfl) | (simp only [← hji2]; first | rfl | (simp [errW_none, errW_some] <;> rfl)) | (simp [*, errW_none, errW_some] <;> rfl), by (with_reducible repeat (first | apply Kd.R_alloc | apply Kd.R_drewN | apply Kd.R_drew)); exact Kd.R_mono (Kd.R_far (p := ⟨gb101, 1, none⟩) (Kd.R_far (p := ⟨gb101, 0, none⟩) (Kd.R_types HO_106001.out BK101.out (by decide)) (fun _ hk => hk.2) (.int .i64 (l0.length : Int))) (fun _ hk => hk.2) (.slice Ao29 x106001_1.length co29)) (fun _ hk => trivial), by repeat (first | (with_reducible first | exact HB.out | apply below_alloc | apply pw_below_drewN | apply below_drew1 | refine below_set ?_ GE101.out | refine below_set ?_ GE105.out) | exact HB.out)⟩
    · rw [if_neg c4] at H
      exact absurd H (by simp)
  · rw [if_neg c3] at H
    exact absurd H (by simp)
end Go.Proofs.YtjmkhdhffmlhiaaDoor.PAll
end
section
namespace Go.Proofs.YtjmkhdhffmlhiaaDoor.PAll
open Go.RowKit Go.Proofs.YtjmkhdhffmlhiaaDoorW.PrintWords Go.Proofs.YtjmkhdhffmlhiaaDoorW.PrintLast Go.Proofs.YtjmkhdhffmlhiaaDoorW.PrintMore
attribute [local go_sem] max2_int min2_int max_two min_two max_three min_three max_four min_four w64_u8 w64_mod256   -- for this text's walks alone
set_option linter.unusedVariables false
set_option linter.unusedSimpArgs false
def sloperef3_sized.f (a0 : Int) : Option (Bool) := if a0 ≥ 0 then (some (decide (a0 ≤ 4096))) else (some false)
set_option maxHeartbeats 8000000 in
set_option maxRecDepth 100000 in
theorem sloperef3_sized.calls (a0 : Int) (r : Bool) (w : World) (h : sloperef3_sized.f a0 = some r) :
    Calls Tryd.prog 78 #[.int .i64 a0] w fun e w' => e = .returned (.bool r) ∧ Drawn0 w w' := by
  have H : (if a0 ≥ 0 then (some (decide (a0 ≤ 4096))) else (some false)) = some r := h
  clear h
  by_cases c2 : a0 ≥ 0
  · rw [if_pos c2] at H
    have c2b0 : decide (0 ≤ a0) = true := decide_eq_true c2
    clear c2
    obtain rfl := Option.some.inj H
    go_enter Tryd.func78, Tryd.ntmps78
    go_wp2
    go_ret
    exact ⟨by first | rfl | (simp; done) | (simp [*]; done), by repeat (first | exact Drawn0.refl _ | apply Drawn0.step)⟩
  · rw [if_neg c2] at H
    have c2b0 : decide (0 ≤ a0) = false := decide_eq_false c2
    clear c2
    obtain rfl := Option.some.inj H
    go_enter Tryd.func78, Tryd.ntmps78
    go_wp2
    go_ret
    exact ⟨by first | rfl | (simp; done) | (simp [*]; done), by repeat (first | exact Drawn0.refl _ | apply Drawn0.step)⟩
end Go.Proofs.YtjmkhdhffmlhiaaDoor.PAll
end
section
namespace Go.Proofs.YtjmkhdhffmlhiaaDoor.PAll
open Go.RowKit Go.Proofs.YtjmkhdhffmlhiaaDoorW.PrintWords Go.Proofs.YtjmkhdhffmlhiaaDoorW.PrintLast Go.Proofs.YtjmkhdhffmlhiaaDoorW.PrintMore
attribute [local go_sem] max2_int min2_int max_two min_two max_three min_three max_four min_four w64_u8 w64_mod256   -- for this text's walks alone
set_option linter.unusedVariables false
set_option linter.unusedSimpArgs false
mutual
def sloperef3_fit.j0 : Nat → Int → List (S24) → Int → Option (Int)
  | 0, _, _, _ => none
  | k + 1, x0, x1, x5 => sloperef3_fit.l0 k x0 x1 x5 0
def sloperef3_fit.l0 : Nat → Int → List (S24) → Int → Int → Option (Int)
  | 0, _, _, _, _ => none
  | k + 1, x0, x1, x5, x6 => if x6 < (x1.length : Int) then (if 0 ≤ x6 then ((sloperef3_May.f k ((rd_T24 x1 x6).f0) ((rd_T24 x1 x6).f1)).bind fun t103 => (if t103 = true then (if ((rd_T24 x1 x6).f0) = x0 then (sloperef3_fit.l0 k x0 x1 x5 (wrap64 (x6 + 1))) else (sloperef3_fit.l0 k x0 x1 60 (wrap64 (x6 + 1)))) else (some 61))) else (none)) else (some x5)
end
def sloperef3_fit.f (k : Nat) (a0 : Int) (l1 : List (S24)) : Option (Int) := (sloperef3_sized.f a0).bind fun t101 => (if t101 = true then (sloperef3_fit.j0 k a0 l1 0) else (sloperef3_fit.j0 k a0 l1 60))
set_option maxHeartbeats 8000000 in
set_option maxRecDepth 100000 in
theorem sloperef3_fit.calls (k : Nat) (a0 : Int) (A1 : Option Addr) (c1 : Nat) (l1 : List (S24)) (r : Int) (w : World) (hr1 : Kd.C k24 w A1 l1.length l1) (hc1 : l1.length ≤ c1) (h : sloperef3_fit.f k a0 l1 = some r) :
    Calls Tryd.prog 91 #[.int .i64 a0, .slice A1 l1.length c1] w fun e w' => e = .returned (.int .i64 r) ∧ Below w.heap.size w w' := by
  have hu24 := Tryd.underlying24
  have HR1 := Aside0.mk hr1
  have HC1 := Aside0.mk hc1
  clear hr1 hc1
  have HB := Aside0.mk (Below.refl w.heap.size w)
  have H : ((sloperef3_sized.f a0).bind fun t101 => (if t101 = true then (sloperef3_fit.j0 k a0 l1 0) else (sloperef3_fit.j0 k a0 l1 60))) = some r := h
  clear h
  replace H := Option.bind_eq_some_iff.mp H
  obtain ⟨t101, A30, H⟩ := H
  replace H : (if t101 = true then (sloperef3_fit.j0 k a0 l1 0) else (sloperef3_fit.j0 k a0 l1 60)) = some r := H
  have A3 := Aside0.mk A30
  clear A30
  have HC4 := Aside0.mk H
  clear H
  go_enter Tryd.func91, Tryd.ntmps91
  go_upto_if 9 with (first | ((with_reducible refine gate_callee (f := 78) rfl ?_); refine goesL_ (some 8) rfl rfl Tryd.func78 (by kernel_rfl) rfl #[.int .i64 a0] rfl (by (try simp only [List.map_toArray, List.map_cons, List.map_nil]); first | done | rfl | (simp only [List.length_drop, List.length_take]; rfl)) ?_; (with_reducible refine (sloperef3_sized.calls a0 t101 _ A3.out).mono ?_); rintro e w' ⟨rfl, ⟨nd, rfl⟩⟩; refine ⟨_, rfl, ?_⟩))
  (try simp only [Act.put, List.setIfInBounds_toArray, List.set_cons_zero, List.set_cons_succ])
  go_cut [5] (fun v5 wc => ∃ (kq : Nat) (x5_3 : Int), v5 = .int .i64 x5_3 ∧ Aside0 (sloperef3_fit.j0 kq a0 l1 x5_3 = some r) ∧ Aside0 (kq ≤ k) ∧ Aside0 (Below w.heap.size w wc))
  case first =>
    have H := HC4.out
    clear HC4
    by_cases c5 : t101 = true
    · subst c5
      have H1 : (sloperef3_fit.j0 k a0 l1 0) = some r := by rw [if_pos rfl] at H; exact H
      clear H
      have H := H1
      clear H1
      have H' := Aside0.mk H
      clear H
      go_wp2
      go_meet
      case rel => exact ⟨_, (0), (by first | rfl | (simp; done) | (simp [*]; done)), H', ⟨by first | omega | exact Nat.le_refl _⟩, ⟨by repeat (first | (with_reducible first | exact HB.out | apply below_alloc | apply pw_below_drewN | apply below_drew1) | exact HB.out)⟩⟩
    · replace c5 := Bool.eq_false_iff.mpr c5
      subst c5
      have H1 : (sloperef3_fit.j0 k a0 l1 60) = some r := by rw [if_neg (show ¬ (false = true) by decide)] at H; exact H
      clear H
      have H := H1
      clear H1
      have H' := Aside0.mk H
      clear H
      go_wp2
      go_meet
      case rel => exact ⟨_, (60), (by first | rfl | (simp; done) | (simp [*]; done)), H', ⟨by first | omega | exact Nat.le_refl _⟩, ⟨by repeat (first | (with_reducible first | exact HB.out | apply below_alloc | apply pw_below_drewN | apply below_drew1) | exact HB.out)⟩⟩
  case rest =>
    clear HC4
    try clear c1
    try clear p2
    try clear c5
    obtain ⟨kq, x5_3, rfl, HA, HJ3, HB⟩ := hcut
    cases kq with
    | zero => exact absurd HA.out (by simp [sloperef3_fit.j0])
    | succ kj3 =>
      have H := HA.out
      clear HA
      simp only [sloperef3_fit.j0] at H
      have H' := Aside0.mk H
      clear H
      go_wp2
      go_loopg [5, 6] kj3 (fun kq v5 v6 w' => ∃ (x5_2 : Int) (x6_2 : Int), v5 = .int .i64 x5_2 ∧ v6 = .int .i64 x6_2 ∧ Aside0 (sloperef3_fit.l0 kq a0 l1 x5_2 x6_2 = some r) ∧ Aside0 (kq ≤ kj3) ∧ Aside0 (Below w.heap.size w w'))
      case atStart => exact ⟨(x5_3), (0), (by first | rfl | (simp; done) | (simp [*]; done)), (by first | rfl | (simp; done) | (simp [*]; done)), H', ⟨Nat.le_refl _⟩, ⟨by repeat (first | (with_reducible first | exact HB.out | apply below_alloc | apply pw_below_drewN | apply below_drew1) | exact HB.out)⟩⟩
      case round =>
        clear H'
        try clear c1
        try clear p2
        try clear c5
        try clear p2
        obtain ⟨x5_2, x6_2, rfl, rfl, HA, HK2, HB⟩ := hrel
        cases gk with
        | zero => exact absurd HA.out (by simp [sloperef3_fit.l0])
        | succ k2 =>
          have H := HA.out
          clear HA
          simp only [sloperef3_fit.l0] at H
          by_cases c6 : x6_2 < (l1.length : Int)
          · rw [if_pos c6] at H
            have c6b0 : decide (x6_2 < (l1.length : Int)) = true := decide_eq_true c6
            clear c6
            by_cases c7 : 0 ≤ x6_2
            · rw [if_pos c7] at H
              have c7b0 : decide (0 ≤ x6_2) = true := decide_eq_true c7
              clear c7
              replace H := Option.bind_eq_some_iff.mp H
              obtain ⟨t103, A80, H⟩ := H
              replace H : (if t103 = true then (if ((rd_T24 l1 x6_2).f0) = a0 then (sloperef3_fit.l0 k2 a0 l1 x5_2 (wrap64 (x6_2 + 1))) else (sloperef3_fit.l0 k2 a0 l1 60 (wrap64 (x6_2 + 1)))) else (some 61)) = some r := H
              have A8 := Aside0.mk A80
              clear A80
              by_cases c9 : t103 = true
              · subst c9
                have H1 : (if ((rd_T24 l1 x6_2).f0) = a0 then (sloperef3_fit.l0 k2 a0 l1 x5_2 (wrap64 (x6_2 + 1))) else (sloperef3_fit.l0 k2 a0 l1 60 (wrap64 (x6_2 + 1)))) = some r := by rw [if_pos rfl] at H; exact H
                clear H
                have H := H1
                clear H1
                by_cases c10 : ((rd_T24 l1 x6_2).f0) = a0
                · rw [if_pos c10] at H
                  have c10b0 : (((rd_T24 l1 x6_2).f0) == a0) = true := beq_iff_eq.mpr c10
                  have c10b1 : (((rd_T24 l1 x6_2).f0) != a0) = false := bne_eq_false_iff_eq.mpr c10
                  clear c10
                  have H' := Aside0.mk H
                  clear H
                  have p102 : 0 ≤ (x6_2 : Int) := of_decide_eq_true (by first | (with_reducible assumption) | assumption)
                  have q102 : x6_2 < (l1.length : Int) := of_decide_eq_true (by first | (with_reducible assumption) | assumption)
                  obtain ⟨ad102, A102_1, c102_1, e102, hx102_0, hx102_1, hl102_1, hi102_1⟩ := at_T24 HR1.out x6_2 p102 q102
                  cases e102
                  replace hx102_0 := (HB.out.cell (World.block_lt_of_cell? w _ hx102_0)).trans hx102_0
                  replace hx102_1 := (HB.out.cell (World.block_lt_of_cell? w _ hx102_1)).trans hx102_1
                  have HR102_1 := Aside0.mk hi102_1
                  have HC102_1 := Aside0.mk hl102_1
                  clear hi102_1 hl102_1
                  replace p102 := eq_true p102
                  replace q102 := eq_true q102
                  go_wp2_with (first | ((with_reducible refine gate_callee (f := 63) rfl ?_); refine goesL_ (some 20) rfl rfl Tryd.func63 (by kernel_rfl) rfl #[.agg #[.int .i64 ((rd_T24 l1 x6_2).f0), .slice A102_1 ((rd_T24 l1 x6_2).f1).length c102_1]] rfl (by (try simp only [List.map_toArray, List.map_cons, List.map_nil]); first | done | rfl | (simp only [List.length_drop, List.length_take]; rfl)) ?_; (with_reducible refine (sloperef3_May.calls k2 ((rd_T24 l1 x6_2).f0) _ _ ((rd_T24 l1 x6_2).f1) true _ ?side1 ?side2 A8.out).mono ?_); (case side1 => repeat (first | exact (Kd.C_below HR102_1.out HB.out) | (with_reducible refine Kd.C_alloc ?_ _) | (with_reducible refine Kd.C_drewN ?_ _) | (with_reducible refine Kd.C_drew ?_))); (case side2 => exact HC102_1.out); rintro e w11 ⟨rfl, hb⟩; refine ⟨_, rfl, ?_⟩; have n0_ := Aside0.mk (below_step (by repeat (first | (with_reducible first | exact HB.out | apply below_alloc | apply pw_below_drewN | apply below_drew1) | exact HB.out)) hb); clear HB; have HB := n0_; clear n0_; (try clear hb); (try clear hb2); (try clear hk); (try clear hi); have p104 : 0 ≤ (x6_2 : Int) := of_decide_eq_true (by first | (with_reducible assumption) | assumption); have q104 : x6_2 < (l1.length : Int) := of_decide_eq_true (by first | (with_reducible assumption) | assumption); obtain ⟨ad104, A104_1, c104_1, e104, hx104_0, hx104_1, hl104_1, hi104_1⟩ := at_T24 HR1.out x6_2 p104 q104; obtain rfl : ad102 = ad104 := (by injection e104); replace hx104_0 := (HB.out.cell (World.block_lt_of_cell? w _ hx104_0)).trans hx104_0; replace hx104_1 := (HB.out.cell (World.block_lt_of_cell? w _ hx104_1)).trans hx104_1; have HR104_1 := Aside0.mk hi104_1; have HC104_1 := Aside0.mk hl104_1; clear hi104_1 hl104_1; replace p104 := eq_true p104; replace q104 := eq_true q104))
                  go_roundg k2
                  case measure => have := HJ3.out; have := HK2.out; omega
                  case rel => exact ⟨(x5_2), (wrap64 (x6_2 + 1)), (by first | rfl | (simp; done) | (simp [*]; done)), (by first | rfl | (simp; done) | (simp [*]; done)), H', ⟨by have := HJ3.out; have := HK2.out; omega⟩, ⟨by repeat (first | (with_reducible first | exact HB.out | apply below_alloc | apply pw_below_drewN | apply below_drew1) | exact HB.out)⟩⟩
                · rw [if_neg c10] at H
                  have c10b0 : (((rd_T24 l1 x6_2).f0) == a0) = false := beq_eq_false_iff_ne.mpr c10
                  have c10b1 : (((rd_T24 l1 x6_2).f0) != a0) = true := bne_iff_ne.mpr c10
                  have H' := Aside0.mk H
                  clear H
                  have p102 : 0 ≤ (x6_2 : Int) := of_decide_eq_true (by first | (with_reducible assumption) | assumption)
                  have q102 : x6_2 < (l1.length : Int) := of_decide_eq_true (by first | (with_reducible assumption) | assumption)
                  obtain ⟨ad102, A102_1, c102_1, e102, hx102_0, hx102_1, hl102_1, hi102_1⟩ := at_T24 HR1.out x6_2 p102 q102
                  cases e102
                  replace hx102_0 := (HB.out.cell (World.block_lt_of_cell? w _ hx102_0)).trans hx102_0
                  replace hx102_1 := (HB.out.cell (World.block_lt_of_cell? w _ hx102_1)).trans hx102_1
                  have HR102_1 := Aside0.mk hi102_1
                  have HC102_1 := Aside0.mk hl102_1
                  clear hi102_1 hl102_1
                  replace p102 := eq_true p102
                  replace q102 := eq_true q102
                  go_wp2_with (first | ((with_reducible refine gate_callee (f := 63) rfl ?_); refine goesL_ (some 20) rfl rfl Tryd.func63 (by kernel_rfl) rfl #[.agg #[.int .i64 ((rd_T24 l1 x6_2).f0), .slice A102_1 ((rd_T24 l1 x6_2).f1).length c102_1]] rfl (by (try simp only [List.map_toArray, List.map_cons, List.map_nil]); first | done | rfl | (simp only [List.length_drop, List.length_take]; rfl)) ?_; (with_reducible refine (sloperef3_May.calls k2 ((rd_T24 l1 x6_2).f0) _ _ ((rd_T24 l1 x6_2).f1) true _ ?side1 ?side2 A8.out).mono ?_); (case side1 => repeat (first | exact (Kd.C_below HR102_1.out HB.out) | (with_reducible refine Kd.C_alloc ?_ _) | (with_reducible refine Kd.C_drewN ?_ _) | (with_reducible refine Kd.C_drew ?_))); (case side2 => exact HC102_1.out); rintro e w12 ⟨rfl, hb⟩; refine ⟨_, rfl, ?_⟩; have n0_ := Aside0.mk (below_step (by repeat (first | (with_reducible first | exact HB.out | apply below_alloc | apply pw_below_drewN | apply below_drew1) | exact HB.out)) hb); clear HB; have HB := n0_; clear n0_; (try clear hb); (try clear hb2); (try clear hk); (try clear hi); have p104 : 0 ≤ (x6_2 : Int) := of_decide_eq_true (by first | (with_reducible assumption) | assumption); have q104 : x6_2 < (l1.length : Int) := of_decide_eq_true (by first | (with_reducible assumption) | assumption); obtain ⟨ad104, A104_1, c104_1, e104, hx104_0, hx104_1, hl104_1, hi104_1⟩ := at_T24 HR1.out x6_2 p104 q104; obtain rfl : ad102 = ad104 := (by injection e104); replace hx104_0 := (HB.out.cell (World.block_lt_of_cell? w _ hx104_0)).trans hx104_0; replace hx104_1 := (HB.out.cell (World.block_lt_of_cell? w _ hx104_1)).trans hx104_1; have HR104_1 := Aside0.mk hi104_1; have HC104_1 := Aside0.mk hl104_1; clear hi104_1 hl104_1; replace p104 := eq_true p104; replace q104 := eq_true q104))
                  go_roundg k2
                  case measure => have := HJ3.out; have := HK2.out; omega
                  case rel => exact ⟨(60), (wrap64 (x6_2 + 1)), (by first | rfl | (simp; done) | (simp [*]; done)), (by first | rfl | (simp; done) | (simp [*]; done)), H', ⟨by have := HJ3.out; have := HK2.out; omega⟩, ⟨by repeat (first | (with_reducible first | exact HB.out | apply below_alloc | apply pw_below_drewN | apply below_drew1) | exact HB.out)⟩⟩
              · replace c9 := Bool.eq_false_iff.mpr c9
                subst c9
                have H1 : (some 61) = some r := by rw [if_neg (show ¬ (false = true) by decide)] at H; exact H
                clear H
                have H := H1
                clear H1
                obtain rfl := Option.some.inj H
                have p102 : 0 ≤ (x6_2 : Int) := of_decide_eq_true (by first | (with_reducible assumption) | assumption)
                have q102 : x6_2 < (l1.length : Int) := of_decide_eq_true (by first | (with_reducible assumption) | assumption)
                obtain ⟨ad102, A102_1, c102_1, e102, hx102_0, hx102_1, hl102_1, hi102_1⟩ := at_T24 HR1.out x6_2 p102 q102
                cases e102
                replace hx102_0 := (HB.out.cell (World.block_lt_of_cell? w _ hx102_0)).trans hx102_0
                replace hx102_1 := (HB.out.cell (World.block_lt_of_cell? w _ hx102_1)).trans hx102_1
                have HR102_1 := Aside0.mk hi102_1
                have HC102_1 := Aside0.mk hl102_1
                clear hi102_1 hl102_1
                replace p102 := eq_true p102
                replace q102 := eq_true q102
                go_wp2_with (first | ((with_reducible refine gate_callee (f := 63) rfl ?_); refine goesL_ (some 20) rfl rfl Tryd.func63 (by kernel_rfl) rfl #[.agg #[.int .i64 ((rd_T24 l1 x6_2).f0), .slice A102_1 ((rd_T24 l1 x6_2).f1).length c102_1]] rfl (by (try simp only [List.map_toArray, List.map_cons, List.map_nil]); first | done | rfl | (simp only [List.length_drop, List.length_take]; rfl)) ?_; (with_reducible refine (sloperef3_May.calls k2 ((rd_T24 l1 x6_2).f0) _ _ ((rd_T24 l1 x6_2).f1) false _ ?side1 ?side2 A8.out).mono ?_); (case side1 => repeat (first | exact (Kd.C_below HR102_1.out HB.out) | (with_reducible refine Kd.C_alloc ?_ _) | (with_reducible refine Kd.C_drewN ?_ _) | (with_reducible refine Kd.C_drew ?_))); (case side2 => exact HC102_1.out); rintro e w13 ⟨rfl, hb⟩; refine ⟨_, rfl, ?_⟩; have n0_ := Aside0.mk (below_step (by repeat (first | (with_reducible first | exact HB.out | apply below_alloc | apply pw_below_drewN | apply below_drew1) | exact HB.out)) hb); clear HB; have HB := n0_; clear n0_; (try clear hb); (try clear hb2); (try clear hk); (try clear hi)))
                go_ret
                exact ⟨by first | rfl | (simp [errW_none, errW_some] <;> rfl) | (simp [*, errW_none, errW_some] <;> rfl), by repeat (first | (with_reducible first | exact HB.out | apply below_alloc | apply pw_below_drewN | apply below_drew1) | exact HB.out)⟩
            · rw [if_neg c7] at H
              exact absurd H (by simp)
          · rw [if_neg c6] at H
            have c6b0 : decide (x6_2 < (l1.length : Int)) = false := decide_eq_false c6
            clear c6
            obtain rfl := Option.some.inj H
            go_wp2
            go_ret
            exact ⟨by first | rfl | (simp [errW_none, errW_some] <;> rfl) | (simp [*, errW_none, errW_some] <;> rfl), by repeat (first | (with_reducible first | exact HB.out | apply below_alloc | apply pw_below_drewN | apply below_drew1) | exact HB.out)⟩
end Go.Proofs.YtjmkhdhffmlhiaaDoor.PAll
end
section
namespace Go.Proofs.YtjmkhdhffmlhiaaDoor.PAll
set_option linter.unusedVariables false
open Go.RowKit Go.Proofs.YtjmkhdhffmlhiaaDoorW.PrintWords Go.Proofs.YtjmkhdhffmlhiaaDoorW.PrintMore
def Wd (x : Int) : Prop := 0 ≤ x ∧ x < 18446744073709551616
def tb (x : Int) (j : Nat) : Bool := x.toNat.testBit j
theorem wrap_u64 (n : Int) : IntKind.u64.wrap n = n % 18446744073709551616 := by simp [IntKind.wrap, IntKind.bits, IntKind.signed]
theorem wraps_u64 (n : Int) (h : Wd n) : IntKind.u64.wrap n = n := by rw [wrap_u64]; unfold Wd at h; omega
theorem Wd.nat {x : Int} (h : Wd x) : x.toNat < 2 ^ 64 ∧ (x.toNat : Int) = x := by unfold Wd at h; omega
theorem Wd.of {n : Nat} (h : n < 2 ^ 64) : Wd (n : Int) := by unfold Wd; omega
theorem Wd.zero : Wd 0 := by unfold Wd; omega
theorem tb_ext {x y : Int} (hx : Wd x) (hy : Wd y) (h : ∀ j, j < 64 → tb x j = tb y j) : x = y := by
  have hx' := hx.nat
  have hy' := hy.nat
  have : x.toNat = y.toNat := Nat.eq_of_testBit_eq fun j => by
    rcases Nat.lt_or_ge j 64 with hj | hj
    · exact h j hj
    · rw [Nat.testBit_lt_two_pow (Nat.lt_of_lt_of_le hx'.1 (Nat.pow_le_pow_right (by decide) hj)), Nat.testBit_lt_two_pow (Nat.lt_of_lt_of_le hy'.1 (Nat.pow_le_pow_right (by decide) hj))]
  rw [← hx'.2, ← hy'.2, this]
theorem tb_high {x : Int} (hx : Wd x) {j : Nat} (hj : 64 ≤ j) : tb x j = false :=
  Nat.testBit_lt_two_pow (Nat.lt_of_lt_of_le hx.nat.1 (Nat.pow_le_pow_right (by decide) hj))
theorem bits_bv (op : BinOp) (f : BitVec 64 → BitVec 64 → BitVec 64) (hf : ∀ a b : Int, Go.bits op .u64 a b = IntKind.u64.wrap ((f (BitVec.ofInt 64 a) (BitVec.ofInt 64 b)).toNat : Int)) (a b : Int) :
    Go.bits op .u64 a b = ((f (BitVec.ofInt 64 a) (BitVec.ofInt 64 b)).toNat : Int) ∧ Wd (Go.bits op .u64 a b) := by
  have h := (f (BitVec.ofInt 64 a) (BitVec.ofInt 64 b)).isLt
  have hw : Wd ((f (BitVec.ofInt 64 a) (BitVec.ofInt 64 b)).toNat : Int) := Wd.of h
  rw [hf, wraps_u64 _ hw]
  exact ⟨rfl, hw⟩
theorem ofInt_tb {a : Int} (ha : Wd a) (j : Nat) : (BitVec.ofInt 64 a).toNat.testBit j = tb a j := by
  have h := ha.nat
  have : (BitVec.ofInt 64 a).toNat = a.toNat := by
    rw [BitVec.toNat_ofInt]
    unfold Wd at ha
    omega
  rw [this]; rfl
theorem or_eq (a b : Int) : Go.bits .or .u64 a b = ((BitVec.ofInt 64 a ||| BitVec.ofInt 64 b).toNat : Int) ∧ Wd (Go.bits .or .u64 a b) := bits_bv .or (· ||| ·) (fun _ _ => rfl) a b
theorem and_eq (a b : Int) : Go.bits .and .u64 a b = ((BitVec.ofInt 64 a &&& BitVec.ofInt 64 b).toNat : Int) ∧ Wd (Go.bits .and .u64 a b) := bits_bv .and (· &&& ·) (fun _ _ => rfl) a b
theorem andNot_eq (a b : Int) : Go.bits .andNot .u64 a b = ((BitVec.ofInt 64 a &&& ~~~ BitVec.ofInt 64 b).toNat : Int) ∧ Wd (Go.bits .andNot .u64 a b) := bits_bv .andNot (fun x y => x &&& ~~~ y) (fun _ _ => rfl) a b
theorem tb_or {a b : Int} (ha : Wd a) (hb : Wd b) (j : Nat) : tb (Go.bits .or .u64 a b) j = (tb a j || tb b j) := by
  rw [(or_eq a b).1]; unfold tb; rw [Int.toNat_natCast, BitVec.toNat_or, Nat.testBit_or, ofInt_tb ha, ofInt_tb hb]; rfl
theorem tb_andNot {a b : Int} (ha : Wd a) (hb : Wd b) (j : Nat) : tb (Go.bits .andNot .u64 a b) j = (tb a j && !tb b j) := by
  rw [(andNot_eq a b).1]; unfold tb; rw [Int.toNat_natCast, BitVec.toNat_and, Nat.testBit_and, ofInt_tb ha]
  rcases Nat.lt_or_ge j 64 with hj | hj
  · congr 1
    rw [BitVec.testBit_toNat, BitVec.getLsbD_not]
    simp only [hj, decide_true, Bool.true_and]
    rw [← BitVec.testBit_toNat, ofInt_tb hb]; rfl
  · have := tb_high ha hj
    unfold tb at this
    rw [show tb a j = false from this, this]; simp
theorem one_shl {e : Int} (h0 : 0 ≤ e) (h1 : e < 64) : shl .u64 1 e = ((2 ^ e.toNat : Nat) : Int) ∧ Wd (shl .u64 1 e) := by
  have hp : 2 ^ e.toNat < 2 ^ 64 := Nat.pow_lt_pow_right (by decide) (by omega)
  have hw : Wd ((2 ^ e.toNat : Nat) : Int) := Wd.of hp
  have : shl .u64 1 e = IntKind.u64.wrap ((2 ^ e.toNat : Nat) : Int) := by
    unfold shl
    rw [show min e.toNat IntKind.u64.bits = e.toNat by simp [IntKind.bits]; omega, Int.one_mul]
    congr 1
  rw [this, wraps_u64 _ hw]
  exact ⟨rfl, hw⟩
theorem tb_one {e : Int} (h0 : 0 ≤ e) (h1 : e < 64) (j : Nat) : tb (shl .u64 1 e) j = decide (j = e.toNat) := by
  rw [(one_shl h0 h1).1]; unfold tb; rw [Int.toNat_natCast, Nat.testBit_two_pow]
  by_cases h : j = e.toNat
  · simp [h]
  · simp [h]; omega
theorem tb_zero (j : Nat) : tb 0 j = false := by simp [tb]
theorem shr_eq {x e : Int} (hx : Wd x) (h0 : 0 ≤ e) (h1 : e < 64) : shr .u64 x e = ((x.toNat >>> e.toNat : Nat) : Int) := by
  unfold shr
  rw [show min e.toNat IntKind.u64.bits = e.toNat by simp [IntKind.bits]; omega, Nat.shiftRight_eq_div_pow]
  conv => lhs; rw [← hx.nat.2]
  simp
theorem shr_bit {x e : Int} (hx : Wd x) (h0 : 0 ≤ e) (h1 : e < 64) : (Int.tmod (shr .u64 x e) 2 == 1) = tb x e.toNat := by
  rw [shr_eq hx h0 h1]
  unfold tb
  rw [Nat.testBit_eq_decide_div_mod_eq, ← Nat.shiftRight_eq_div_pow]
  have : Int.tmod ((x.toNat >>> e.toNat : Nat) : Int) 2 = ((x.toNat >>> e.toNat % 2 : Nat) : Int) := by
    rw [show (2 : Int) = ((2 : Nat) : Int) from rfl, ← Int.ofNat_tmod]
  rw [this]
  by_cases h : x.toNat >>> e.toNat % 2 = 1
  · simp [h]
  · have h2 : ¬ (((x.toNat >>> e.toNat % 2 : Nat) : Int) = 1) := by omega
    simp only [h, decide_false]
    exact beq_eq_false_iff_ne.mpr h2
def Wds (ws : List Int) : Prop := ∀ x ∈ ws, Wd x
def hb (ws : List Int) (e : Nat) : Bool := tb (ws.getD (e / 64) 0) (e % 64)
def putw (ws : List Int) (e : Nat) : List Int := ws.set (e / 64) (Go.bits .or .u64 (ws.getD (e / 64) 0) (shl .u64 1 ((e % 64 : Nat) : Int)))
theorem Wds.getD {ws : List Int} (h : Wds ws) (i : Nat) : Wd (ws.getD i 0) := by
  rw [List.getD_eq_getElem?_getD]
  rcases Nat.lt_or_ge i ws.length with hi | hi
  · rw [List.getElem?_eq_getElem hi]; exact h _ (List.getElem_mem hi)
  · rw [List.getElem?_eq_none hi]; exact Wd.zero
theorem Wds.set {ws : List Int} (h : Wds ws) (i : Nat) {x : Int} (hx : Wd x) : Wds (ws.set i x) := by
  intro y hy
  rcases List.mem_or_eq_of_mem_set hy with h1 | h1
  · exact h _ h1
  · exact h1 ▸ hx
theorem Wds.replicate (n : Nat) : Wds (List.replicate n 0) := by
  intro x hx
  rw [(List.mem_replicate.1 hx).2]
  exact Wd.zero
theorem Wds.nil : Wds [] := fun _ h => by cases h
theorem rd_nat (ws : List Int) (i : Nat) : rd ws (i : Int) = ws.getD i 0 := by simp [rd]
theorem getD_set (ws : List Int) (i j : Nat) (x : Int) (hi : i < ws.length) : (ws.set i x).getD j 0 = if i = j then x else ws.getD j 0 := by
  rw [List.getD_eq_getElem?_getD, List.getElem?_set, List.getD_eq_getElem?_getD]
  by_cases h : i = j
  · subst h; simp [hi]
  · simp [h]
theorem hb_ext {ws vs : List Int} (hw : Wds ws) (hv : Wds vs) (hl : ws.length = vs.length) (h : ∀ e, e < 64 * ws.length → hb ws e = hb vs e) : ws = vs := by
  apply List.ext_getElem hl
  intro i h1 h2
  have hi : ws.getD i 0 = ws[i] := by rw [List.getD_eq_getElem?_getD, List.getElem?_eq_getElem h1]; rfl
  have hi2 : vs.getD i 0 = vs[i] := by rw [List.getD_eq_getElem?_getD, List.getElem?_eq_getElem h2]; rfl
  apply tb_ext (hw _ (List.getElem_mem h1)) (hv _ (List.getElem_mem h2))
  intro j hj
  have := h (64 * i + j) (by omega)
  unfold hb at this
  rw [show (64 * i + j) / 64 = i by omega, show (64 * i + j) % 64 = j by omega, hi, hi2] at this
  exact this
theorem hb_replicate (n e : Nat) : hb (List.replicate n 0) e = false := by
  unfold hb
  have : (List.replicate n (0 : Int)).getD (e / 64) 0 = 0 := by
    rw [List.getD_eq_getElem?_getD, List.getElem?_replicate]
    split <;> rfl
  rw [this]; exact tb_zero _
theorem hb_high {ws : List Int} {e : Nat} (h : 64 * ws.length ≤ e) : hb ws e = false := by
  unfold hb
  have : ws.getD (e / 64) 0 = 0 := by
    rw [List.getD_eq_getElem?_getD, List.getElem?_eq_none (by omega)]; rfl
  rw [this]; exact tb_zero _
theorem putw_length (ws : List Int) (e : Nat) : (putw ws e).length = ws.length := by simp [putw]
theorem putw_Wds {ws : List Int} (h : Wds ws) (e : Nat) : Wds (putw ws e) := h.set _ (or_eq _ _).2
theorem hb_putw {ws : List Int} (h : Wds ws) {e : Nat} (he : e / 64 < ws.length) (d : Nat) : hb (putw ws e) d = (hb ws d || decide (d = e)) := by
  unfold hb putw
  rw [getD_set _ _ _ _ he]
  by_cases h1 : e / 64 = d / 64
  · rw [if_pos h1, tb_or (h.getD _) (one_shl (by omega) (by omega)).2, tb_one (by omega) (by omega), h1]
    congr 1
    simp only [Int.toNat_natCast]
    by_cases h2 : d = e
    · subst h2; simp
    · simp only [h2, decide_false, decide_eq_false_iff_not]; omega
  · rw [if_neg h1]
    have : ¬ d = e := fun h2 => h1 (by rw [h2])
    simp [this]
structure Is (n : Nat) (p : Nat → Bool) (ws : List Int) : Prop where
  len : ws.length = (n + 63) / 64
  wds : Wds ws
  has : ∀ e, hb ws e = (decide (e < n) && p e)
theorem Is.eq {n : Nat} {p q : Nat → Bool} {ws vs : List Int} (h : Is n p ws) (k : Is n q vs) (hpq : ∀ e, e < n → p e = q e) : ws = vs := by
  apply hb_ext h.wds k.wds (h.len.trans k.len.symm)
  intro e _
  rw [h.has, k.has]
  by_cases he : e < n
  · rw [hpq e he]
  · simp [he]
theorem Is.congr {n : Nat} {p q : Nat → Bool} {ws : List Int} (h : Is n p ws) (hpq : ∀ e, e < n → p e = q e) : Is n q ws :=
  ⟨h.len, h.wds, fun e => by rw [h.has]; by_cases he : e < n <;> simp [he]; exact hpq e he⟩
theorem Is.none (n : Nat) : Is n (fun _ => false) (List.replicate ((n + 63) / 64) 0) := ⟨by simp, Wds.replicate _, fun e => by rw [hb_replicate]; simp⟩
theorem Is.put {n : Nat} {p : Nat → Bool} {ws : List Int} (h : Is n p ws) {e : Nat} (he : e < n) : Is n (fun d => p d || decide (d = e)) (putw ws e) := by
  refine ⟨by rw [putw_length, h.len], putw_Wds h.wds e, fun d => ?_⟩
  rw [hb_putw h.wds (by rw [h.len]; omega), h.has]
  by_cases h1 : d = e
  · subst h1; simp [he]
  · simp [h1]
theorem Is.lt {n : Nat} {p : Nat → Bool} {ws : List Int} (h : Is n p ws) {e : Nat} (he : e < n) : e / 64 < ws.length := by rw [h.len]; omega
theorem w64_nat {n : Int} (h0 : -9223372036854775808 ≤ n) (h1 : n ≤ 9223372036854775807) : wrap64 n = n := by unfold wrap64; omega
theorem tdiv_nat (e : Nat) : Int.tdiv (e : Int) 64 = ((e / 64 : Nat) : Int) := by rw [show (64 : Int) = ((64 : Nat) : Int) from rfl, ← Int.ofNat_tdiv]
theorem tmod_nat (e : Nat) : Int.tmod (e : Int) 64 = ((e % 64 : Nat) : Int) := by rw [show (64 : Int) = ((64 : Nat) : Int) from rfl, ← Int.ofNat_tmod]
theorem Ev.const {α : Type} {g : Nat → Option α} {r : α} (h : ∀ k, g k = some r) : Ev g r := ⟨0, fun k _ => h k⟩
theorem sized_yes {n : Nat} (h : n ≤ 4096) : bitset_sized.f (n : Int) = some true := by
  unfold bitset_sized.f
  rw [if_pos (by omega), decide_eq_true (by omega)]
theorem sized_no {n : Int} (h : n < 0 ∨ 4096 < n) : bitset_sized.f n = some false := by
  unfold bitset_sized.f
  by_cases h0 : n ≥ 0
  · rw [if_pos h0, decide_eq_false (by omega)]
  · rw [if_neg h0]
theorem rsized_yes {n : Nat} (h : n ≤ 4096) : sloperef3_sized.f (n : Int) = some true := by
  unfold sloperef3_sized.f
  rw [if_pos (by omega), decide_eq_true (by omega)]
theorem rsized_no {n : Int} (h : n < 0 ∨ 4096 < n) : sloperef3_sized.f n = some false := by
  unfold sloperef3_sized.f
  by_cases h0 : n ≥ 0
  · rw [if_pos h0, decide_eq_false (by omega)]
  · rw [if_neg h0]
theorem words_eq {n : Nat} (h : n ≤ 4096) : bitset_words.f (n : Int) = some (((n + 63) / 64 : Nat) : Int) := by
  unfold bitset_words.f
  have h1 : wrap64 (wrap64 ((n : Int) + 64) - 1) = ((n + 63 : Nat) : Int) := by unfold wrap64; omega
  rw [h1, tdiv_nat]
  congr 1
  apply w64_nat <;> omega
theorem blank_eq {n : Nat} (h : n ≤ 4096) : bitset_blank.f (n : Int) = some ((n : Int), List.replicate ((n + 63) / 64) 0) := by
  unfold bitset_blank.f
  rw [words_eq h]
  simp only [Option.bind_some, Int.toNat_natCast]
  rw [if_pos (by omega), if_pos (by omega)]
theorem put_eq {n : Int} {ws : List Int} {e : Nat} (he : e / 64 < ws.length) (hb : e < 1000000) : bitset_put.f n ws (e : Int) = some (putw ws e) := by
  unfold bitset_put.f
  rw [tdiv_nat, tmod_nat, w64_nat (by omega) (by omega), if_pos (by omega), if_pos (by omega), if_pos (by omega)]
  simp only [Int.toNat_natCast, putw, rd_nat]
def MakeSays (size : Int) (l : List Int) (r : Int × List Int × Int) : Prop :=
  ((size < 0 ∨ 4096 < size) ∧ r = (0, [], 60)) ∨ (0 ≤ size ∧ size ≤ 4096 ∧ (((∃ x ∈ l, x < 0 ∨ size ≤ x) ∧ r = (0, [], 62)) ∨
    ((∀ x ∈ l, 0 ≤ x ∧ x < size) ∧ ∃ ws, Is size.toNat (fun e => decide ((e : Int) ∈ l)) ws ∧ r = (size, ws, 0))))
theorem MakeSays.eq {size : Int} {l : List Int} {r q : Int × List Int × Int} (h : MakeSays size l r) (k : MakeSays size l q) : r = q := by
  rcases h with ⟨h1, rfl⟩ | ⟨h1, h2, ⟨⟨x, h3, h4⟩, rfl⟩ | ⟨h3, ws, h4, rfl⟩⟩ <;> rcases k with ⟨k1, rfl⟩ | ⟨k1, k2, ⟨⟨y, k3, k4⟩, rfl⟩ | ⟨k3, vs, k4, rfl⟩⟩
  · rfl
  · omega
  · omega
  · omega
  · rfl
  · have := k3 x h3; omega
  · omega
  · have := h3 y k3; omega
  · rw [h4.eq k4 (fun _ _ => rfl)]
theorem Of_loop (inb : List Bool) (n : Nat) (hn : inb.length = n) (hb : n ≤ 4096) : ∀ (d i : Nat) (p : Nat → Bool) (ws : List Int), i + d = n → Is n p ws → (∀ e, p e = (decide (e < i) && inb.getD e false)) →
    ∃ ws', Is n (fun e => inb.getD e false) ws' ∧ Ev (fun k => sloperef3_Of.l0 k inb (i : Int) (n : Int) ws) ((n : Int), ws') := by
  intro d
  induction d with
  | zero =>
    intro i p ws hi h hp
    refine ⟨ws, h.congr fun e he => ?_, ⟨1, fun k hk => ?_⟩⟩
    · rw [hp]; simp; intro _; omega
    · obtain ⟨k, rfl⟩ : ∃ m, k = m + 1 := ⟨k - 1, by omega⟩
      simp only [sloperef3_Of.l0]
      rw [if_neg (by omega)]
  | succ d ih =>
    intro i p ws hi h hp
    have hr : rdOf false inb (i : Int) = inb.getD i false := by simp [rdOf]
    by_cases hx : inb.getD i false = true
    · obtain ⟨ws', h1, h2⟩ := ih (i + 1) _ (putw ws i) (by omega) (h.put (e := i) (by omega)) (fun e => by
        rw [hp]
        by_cases he : e = i
        · subst he; simp at hx; simp [hx]
        · have : (e < i + 1) = (e < i) := by simp; omega
          simp [he, this])
      refine ⟨ws', h1, Ev.step (fun k => ?_) h2⟩
      conv => lhs; rw [sloperef3_Of.l0]
      have hu : IntKind.u64.wrap ((i % 64 : Nat) : Int) = ((i % 64 : Nat) : Int) := wraps_u64 _ (by unfold Wd; omega)
      have hlt := h.lt (e := i) (by omega)
      rw [if_pos (by omega), if_pos (by omega), hr, if_pos hx, tdiv_nat, tmod_nat, w64_nat (by omega) (by omega), hu, if_pos (by omega), if_pos (by omega), if_pos (by omega)]
      rw [show wrap64 ((i : Int) + 1) = ((i + 1 : Nat) : Int) by unfold wrap64; omega]
      simp only [Int.toNat_natCast, putw, rd_nat]
    · obtain ⟨ws', h1, h2⟩ := ih (i + 1) p ws (by omega) h (fun e => by
        rw [hp]
        by_cases he : e = i
        · subst he; simp at hx; simp [hx]
        · have : (e < i + 1) = (e < i) := by simp; omega
          simp [this])
      refine ⟨ws', h1, Ev.step (fun k => ?_) h2⟩
      conv => lhs; rw [sloperef3_Of.l0]
      rw [if_pos (by omega), if_pos (by omega), hr, if_neg hx]
      rw [show wrap64 ((i : Int) + 1) = ((i + 1 : Nat) : Int) by unfold wrap64; omega]
theorem Of_eq (inb : List Bool) (hb : inb.length ≤ 4096) : ∃ ws, Is inb.length (fun e => inb.getD e false) ws ∧ Ev (fun k => sloperef3_Of.f k inb) ((inb.length : Int), ws) := by
  obtain ⟨ws, h1, h2⟩ := Of_loop inb inb.length rfl hb inb.length 0 _ _ (by omega) (Is.none inb.length) (fun e => by simp)
  refine ⟨ws, h1, Ev.congr (fun k => ?_) h2⟩
  unfold sloperef3_Of.f
  have h3 : wrap64 ((inb.length : Int) + 63) = ((inb.length + 63 : Nat) : Int) := by unfold wrap64; omega
  rw [h3, tdiv_nat, w64_nat (by omega) (by omega), if_pos (by omega), Int.toNat_natCast, if_pos (by omega)]
  rfl
def MayP (n : Int) (ws : List Int) : Prop := 0 ≤ n ∧ n ≤ 4096 ∧ ws.length = (n.toNat + 63) / 64 ∧ ∀ e : Nat, n.toNat ≤ e → hb ws e = false
noncomputable def may (n : Int) (ws : List Int) : Bool := @decide (MayP n ws) (Classical.propDecidable _)
theorem may_true {n : Int} {ws : List Int} : may n ws = true ↔ MayP n ws := by unfold may; exact @decide_eq_true_iff _ (Classical.propDecidable _)
theorem may_false {n : Int} {ws : List Int} : may n ws = false ↔ ¬ MayP n ws := by unfold may; exact @decide_eq_false_iff_not _ (Classical.propDecidable _)
theorem may_of {n : Int} {ws : List Int} {b : Bool} (h : b = true ↔ MayP n ws) : b = may n ws := by
  rw [Bool.eq_iff_iff, h, may_true]
theorem MayP.is {n : Int} {ws : List Int} (h : MayP n ws) (hw : Wds ws) : Is n.toNat (hb ws) ws :=
  ⟨h.2.2.1, hw, fun e => by
    by_cases he : e < n.toNat
    · simp [he]
    · rw [h.2.2.2 e (by omega)]; simp [he]⟩
theorem Is.may {n : Nat} {p : Nat → Bool} {ws : List Int} (h : Is n p ws) (hn : n ≤ 4096) : MayP (n : Int) ws :=
  ⟨by omega, by omega, by rw [h.len]; simp, fun e he => (by
    rw [h.has]
    have : ¬ e < n := by omega
    simp [this])⟩
theorem In_eq {n : Int} {ws : List Int} {e : Nat} (hw : Wds ws) (he : e / 64 < ws.length) (hb1 : e < 1000000) : sloperef3_In.f n ws (e : Int) = some (hb ws e) := by
  unfold sloperef3_In.f
  rw [tdiv_nat, tmod_nat, w64_nat (by omega) (by omega), wraps_u64 _ (by unfold Wd; omega), if_pos (by omega), if_pos (by omega), if_pos (by omega), rd_nat, shr_bit (hw.getD _) (by omega) (by omega)]
  simp only [hb, Int.toNat_natCast]
theorem rMay_loop (n : Int) (ws : List Int) (hw : Wds ws) (hl : ws.length ≤ 64) : ∀ d i : Nat, i + d = 64 * ws.length → ∃ b : Bool, (b = true ↔ ∀ e, i ≤ e → hb ws e = false) ∧ Ev (fun k => sloperef3_May.l0 k (i : Int) n ws) b := by
  intro d
  induction d with
  | zero =>
    intro i hi
    refine ⟨true, ⟨fun _ e he => hb_high (by omega), fun _ => rfl⟩, ⟨1, fun k hk => ?_⟩⟩
    obtain ⟨k, rfl⟩ : ∃ m, k = m + 1 := ⟨k - 1, by omega⟩
    simp only [sloperef3_May.l0]
    rw [w64_nat (by omega) (by omega), if_neg (by omega)]
  | succ d ih =>
    intro i hi
    have hlt : i / 64 < ws.length := by omega
    by_cases hx : hb ws i = true
    · refine ⟨false, ⟨fun h => (by cases h), fun h => (by rw [h i (Nat.le_refl _)] at hx; cases hx)⟩, ⟨1, fun k hk => ?_⟩⟩
      obtain ⟨k, rfl⟩ : ∃ m, k = m + 1 := ⟨k - 1, by omega⟩
      simp only [sloperef3_May.l0]
      rw [w64_nat (by omega) (by omega), if_pos (by omega), In_eq hw hlt (by omega), Option.bind_some, if_pos hx]
    · obtain ⟨b, h1, h2⟩ := ih (i + 1) (by omega)
      refine ⟨b, h1.trans ⟨fun h e he => ?_, fun h e he => h e (by omega)⟩, Ev.step (fun k => ?_) h2⟩
      · rcases Nat.eq_or_lt_of_le he with rfl | h3
        · simpa using hx
        · exact h e h3
      · conv => lhs; rw [sloperef3_May.l0]
        rw [w64_nat (by omega) (by omega), if_pos (by omega), In_eq hw hlt (by omega), Option.bind_some, if_neg hx]
        rw [show wrap64 ((i : Int) + 1) = ((i + 1 : Nat) : Int) by unfold wrap64; omega]
theorem rMay_eq (n : Int) (ws : List Int) (hw : Wds ws) (hl : ws.length ≤ 9223372036854775807) : Ev (fun k => sloperef3_May.f k n ws) (may n ws) := by
  by_cases hs : 0 ≤ n ∧ n ≤ 4096
  · obtain ⟨m, rfl⟩ := Int.eq_ofNat_of_zero_le hs.1
    have h3 : wrap64 (Int.tdiv (wrap64 ((m : Int) + 63)) 64) = (((m + 63) / 64 : Nat) : Int) := by
      rw [show wrap64 ((m : Int) + 63) = ((m + 63 : Nat) : Int) by unfold wrap64; omega, tdiv_nat, w64_nat (by omega) (by omega)]
    by_cases hq : ws.length = (m + 63) / 64
    · obtain ⟨b, h1, h2⟩ := rMay_loop (m : Int) ws hw (by omega) (64 * ws.length - m) m (by omega)
      have hb' : b = may (m : Int) ws := may_of ⟨fun h => ⟨by omega, by omega, by simpa using hq, by simpa using h1.1 h⟩, fun h => h1.2 (by simpa using h.2.2.2)⟩
      rw [← hb']
      refine Ev.congr (f := fun k => sloperef3_May.j0 k false (m : Int) ws) (fun k => ?_) (Ev.step (fun k => ?_) h2)
      · unfold sloperef3_May.f
        rw [if_neg (by omega), if_neg (by omega), h3, bne_eq_false_iff_eq.mpr (by omega)]
      · rw [sloperef3_May.j0]
        rw [if_neg (by simp)]
    · have hb' : may (m : Int) ws = false := may_false.2 fun h => hq (by simpa using h.2.2.1)
      rw [hb']
      refine Ev.congr (f := fun k => sloperef3_May.j0 k true (m : Int) ws) (fun k => ?_) (Ev.step (f := fun _ => some false) (fun k => ?_) (Ev.now _))
      · unfold sloperef3_May.f
        rw [if_neg (by omega), if_neg (by omega), h3, bne_iff_ne.mpr (by omega)]
      · rw [sloperef3_May.j0]
        rw [if_pos rfl]
  · have hb' : may n ws = false := may_false.2 fun h => hs ⟨h.1, h.2.1⟩
    rw [hb']
    refine Ev.congr (f := fun k => sloperef3_May.j0 k true n ws) (fun k => ?_) (Ev.step (f := fun _ => some false) (fun k => ?_) (Ev.now _))
    · unfold sloperef3_May.f
      by_cases h0 : n < 0
      · rw [if_pos h0]
      · rw [if_neg h0, if_pos (by omega)]
    · rw [sloperef3_May.j0]
      rw [if_pos rfl]
theorem mask_tb (n : Nat) (hn : n ≤ 4096) : ∃ m, bitset_mask.f (n : Int) = some m ∧ Wd m ∧ ∀ j, j < 64 → tb m j = (decide (n % 64 = 0) || decide (j < n % 64)) := by
  unfold bitset_mask.f
  rw [tmod_nat]
  by_cases h : n % 64 = 0
  · refine ⟨18446744073709551615, by rw [if_pos (by omega)], by unfold Wd; omega, fun j hj => ?_⟩
    have : tb 18446744073709551615 j = decide (j < 64) := by
      unfold tb
      rw [show (18446744073709551615 : Int).toNat = 2 ^ 64 - 1 by decide, Nat.testBit_two_pow_sub_one]
    rw [this]; simp [h, hj]
  · have h1 := one_shl (e := ((n % 64 : Nat) : Int)) (by omega) (by omega)
    rw [Int.toNat_natCast] at h1
    have hp : 0 < 2 ^ (n % 64) := Nat.two_pow_pos _
    have h2 : shl .u64 1 ((n % 64 : Nat) : Int) - 1 = ((2 ^ (n % 64) - 1 : Nat) : Int) := by rw [h1.1]; omega
    have h3 : Wd ((2 ^ (n % 64) - 1 : Nat) : Int) := by
      have := h1.2
      rw [h1.1] at this
      unfold Wd at this ⊢
      omega
    refine ⟨((2 ^ (n % 64) - 1 : Nat) : Int), ?_, h3, fun j hj => ?_⟩
    · rw [if_neg (by omega), if_pos (by omega), h2, wraps_u64 _ h3]
    · unfold tb
      rw [Int.toNat_natCast, Nat.testBit_two_pow_sub_one]
      simp [h]
theorem andNot_zero {x y : Int} (hx : Wd x) (hy : Wd y) : (Go.bits .andNot .u64 x y == 0) = true ↔ ∀ j, j < 64 → tb x j = true → tb y j = true := by
  rw [beq_iff_eq]
  constructor
  · intro h j hj hxj
    have h1 := tb_andNot hx hy j
    rw [h, tb_zero, hxj] at h1
    simpa using h1
  · intro h
    refine tb_ext (andNot_eq _ _).2 Wd.zero fun j hj => ?_
    rw [tb_andNot hx hy, tb_zero]
    cases h1 : tb x j
    · rfl
    · rw [h j hj h1]; rfl
theorem May_eq (n : Int) (ws : List Int) (hw : Wds ws) (hl : ws.length ≤ 9223372036854775807) : bitset_May.f n ws = some (may n ws) := by
  unfold bitset_May.f
  by_cases hs : 0 ≤ n ∧ n ≤ 4096
  · obtain ⟨m, rfl⟩ := Int.eq_ofNat_of_zero_le hs.1
    have hm : m ≤ 4096 := by omega
    rw [sized_yes hm, Option.bind_some, if_pos rfl, words_eq hm, Option.bind_some]
    by_cases hq : ws.length = (m + 63) / 64
    · rw [if_pos (by omega)]
      by_cases h0 : ws.length = 0
      · rw [if_pos (by omega)]
        congr 1
        exact (may_true.2 ⟨by omega, by omega, by simpa using hq, fun e he => hb_high (by omega)⟩).symm
      · obtain ⟨l, hl1⟩ : ∃ l, ws.length = l + 1 := ⟨ws.length - 1, by omega⟩
        have h4 : wrap64 ((ws.length : Int) - 1) = (l : Int) := by rw [w64_nat (by omega) (by omega)]; omega
        obtain ⟨mk, h5, h6, h7⟩ := mask_tb m hm
        rw [if_neg (by omega), h4, if_pos (by omega), if_pos (by omega), h5, Option.bind_some, rd_nat]
        congr 1
        apply may_of
        rw [andNot_zero (hw.getD _) h6]
        constructor
        · refine fun h => ⟨by omega, by omega, by simpa using hq, fun e he => ?_⟩
          rw [Int.toNat_natCast] at he
          rcases Nat.lt_or_ge e (64 * ws.length) with h8 | h8
          · unfold hb
            rw [show e / 64 = l by omega]
            cases h9 : tb (ws.getD l 0) (e % 64)
            · rfl
            · have h10 := h (e % 64) (by omega) h9
              rw [h7 _ (by omega), Bool.or_eq_true, decide_eq_true_eq, decide_eq_true_eq] at h10
              omega
          · exact hb_high h8
        · intro h j hj hx
          rw [h7 _ hj, Bool.or_eq_true, decide_eq_true_eq, decide_eq_true_eq]
          refine Classical.byContradiction fun h8 => ?_
          have h9 := h.2.2.2 (64 * l + j) (by rw [Int.toNat_natCast]; omega)
          unfold hb at h9
          rw [show (64 * l + j) / 64 = l by omega, show (64 * l + j) % 64 = j by omega, hx] at h9
          cases h9
    · rw [if_neg (by omega)]
      congr 1
      exact (may_false.2 fun h => hq (by simpa using h.2.2.1)).symm
  · rw [sized_no (by omega), Option.bind_some, if_neg (by simp)]
    congr 1
    exact (may_false.2 fun h => hs ⟨h.1, h.2.1⟩).symm
theorem fill_loop {α : Type} (n : Nat) (f : Nat → Bool) (g : Nat → List Bool → Int → Option α) (r : α) (hstep : ∀ k i inb, i < n → inb.length = n → g (k + 1) inb ((i : Nat) : Int) = g k (inb.set i (f i)) ((i + 1 : Nat) : Int))
    (hend : Ev (fun k => g k ((List.range n).map f) (n : Int)) r) : Ev (fun k => g k (List.replicate n false) ((0 : Nat) : Int)) r := by
  have key : ∀ d i : Nat, i + d = n → Ev (fun k => g k ((List.range i).map f ++ List.replicate d false) (i : Int)) r := by
    intro d
    induction d with
    | zero => intro i hi; have : i = n := by omega
              subst this; simpa using hend
    | succ d ih =>
      intro i hi
      refine Ev.step (fun k => ?_) (ih (i + 1) (by omega))
      rw [hstep k i _ (by omega) (by simp; omega)]
      congr 1
      rw [List.set_append_right _ _ (by simp), List.length_map, List.length_range, Nat.sub_self, List.replicate_succ, List.set_cons_zero, List.range_succ, List.map_append, List.append_assoc]
      rfl
  simpa using key n 0 (by omega)
def TurnSays (n : Int) (ws : List Int) (e : Int) (yes : Bool) (r : Int × List Int × Int) : Prop :=
  (¬ MayP n ws ∧ r = (0, [], 61)) ∨ (MayP n ws ∧ (((e < 0 ∨ n ≤ e) ∧ r = (0, [], 62)) ∨ (0 ≤ e ∧ e < n ∧ ∃ vs, Is n.toNat (fun d => if d = e.toNat then yes else hb ws d) vs ∧ r = (n, vs, 0))))
theorem TurnSays.eq {n : Int} {ws : List Int} {e : Int} {yes : Bool} {r q : Int × List Int × Int} (h : TurnSays n ws e yes r) (k : TurnSays n ws e yes q) : r = q := by
  rcases h with ⟨h1, rfl⟩ | ⟨h1, ⟨h2, rfl⟩ | ⟨h2, h3, vs, h4, rfl⟩⟩ <;> rcases k with ⟨k1, rfl⟩ | ⟨k1, ⟨k2, rfl⟩ | ⟨k2, k3, us, k4, rfl⟩⟩
  · rfl
  · exact absurd k1 h1
  · exact absurd k1 h1
  · exact absurd h1 k1
  · rfl
  · omega
  · exact absurd h1 k1
  · omega
  · rw [h4.eq k4 (fun _ _ => rfl)]
theorem own_eq {n : Int} {ws : List Int} (h : MayP n ws) (hw : Wds ws) : bitset_own.f n ws = some ws := by
  have h1 := h.2.1
  have h2 := h.2.2.1
  unfold bitset_own.f
  rw [May_eq n ws hw (by omega), may_true.2 h, Option.bind_some, if_pos rfl, if_pos (by simp only [List.length_nil]; omega), List.nil_append]
theorem and_split (i x y v m : Nat) (hx : x < 2 ^ i) (hy : y < 2 ^ i) : (2 ^ i * v + x) &&& (2 ^ i * m + y) = 2 ^ i * (v &&& m) + (x &&& y) := by
  have hxy : x &&& y < 2 ^ i := Nat.and_lt_two_pow _ hy
  apply Nat.eq_of_testBit_eq
  intro j
  rw [Nat.testBit_and, Nat.testBit_two_pow_mul_add _ hx, Nat.testBit_two_pow_mul_add _ hy, Nat.testBit_two_pow_mul_add _ hxy]
  by_cases h : j < i
  · simp [h]
  · simp [h]
def val256 : List Nat → Nat
  | [] => 0
  | d :: l => 256 * val256 l + d
theorem eight : ∀ l : List Nat, l.length = 8 → (∀ x ∈ l, x ≤ 8) → ∀ a4 a5 a6 : Nat, a4 = val256 l + val256 l / 256 → a5 = a4 + a4 / 65536 → a6 = a5 + a5 / 4294967296 → a4 < 2 ^ 63 ∧ a5 < 2 ^ 63 ∧ a6 < 2 ^ 63 ∧ a6 % 128 = l.sum := by
  intro l hl hm a4 a5 a6 h4 h5 h6
  match l, hl, hm with
  | [e0, e1, e2, e3, e4, e5, e6, e7], _, hm =>
    have g0 := hm e0 (by simp)
    have g1 := hm e1 (by simp)
    have g2 := hm e2 (by simp)
    have g3 := hm e3 (by simp)
    have g4 := hm e4 (by simp)
    have g5 := hm e5 (by simp)
    have g6 := hm e6 (by simp)
    have g7 := hm e7 (by simp)
    clear hm
    simp only [val256] at h4
    simp only [List.sum_cons, List.sum_nil]
    have k4 : a4 = (e0 + e1) + 256 * (e1 + e2) + 65536 * (e2 + e3) + 16777216 * (e3 + e4) + 4294967296 * (e4 + e5) + 1099511627776 * (e5 + e6) + 281474976710656 * (e6 + e7) + 72057594037927936 * e7 := by omega
    clear h4
    have k5 : a5 = (e0 + e1 + e2 + e3) + 256 * (e1 + e2 + e3 + e4) + 65536 * (e2 + e3 + e4 + e5) + 16777216 * (e3 + e4 + e5 + e6) + 4294967296 * (e4 + e5 + e6 + e7) + 1099511627776 * (e5 + e6 + e7) + 281474976710656 * (e6 + e7) + 72057594037927936 * e7 := by omega
    have k6 : a6 = (e0 + e1 + e2 + e3 + e4 + e5 + e6 + e7) + 256 * (e1 + e2 + e3 + e4 + e5 + e6 + e7) + 65536 * (e2 + e3 + e4 + e5 + e6 + e7) + 16777216 * (e3 + e4 + e5 + e6 + e7) + 4294967296 * (e4 + e5 + e6 + e7) + 1099511627776 * (e5 + e6 + e7) + 281474976710656 * (e6 + e7) + 72057594037927936 * e7 := by
      clear k4 h5
      omega
    clear h5 h6
    refine ⟨by omega, by omega, by omega, ?_⟩
    clear k4 k5
    omega
theorem and_nat (a b : Nat) (ha : a < 2 ^ 64) (hb : b < 2 ^ 64) : Go.bits .and .u64 (a : Int) (b : Int) = ((a &&& b : Nat) : Int) := by
  rw [(and_eq _ _).1, BitVec.toNat_and]
  congr 1
  have h1 : (BitVec.ofInt 64 (a : Int)).toNat = a := by rw [BitVec.toNat_ofInt]; omega
  have h2 : (BitVec.ofInt 64 (b : Int)).toNat = b := by rw [BitVec.toNat_ofInt]; omega
  rw [h1, h2]
theorem wrap_nat (a : Nat) (ha : a < 2 ^ 64) : IntKind.u64.wrap (a : Int) = (a : Int) := wraps_u64 _ (Wd.of ha)
def TwoSays (f : Bool → Bool → Bool) (a : Int) (la : List Int) (b : Int) (lb : List Int) (r : Int × List Int × Int) : Prop :=
  (¬ (MayP a la ∧ MayP b lb) ∧ r = (0, [], 61)) ∨ (MayP a la ∧ MayP b lb ∧ ((a ≠ b ∧ r = (0, [], 60)) ∨ (a = b ∧ ∃ vs, Is a.toNat (fun d => f (hb la d) (hb lb d)) vs ∧ r = (a, vs, 0))))
theorem TwoSays.eq {f : Bool → Bool → Bool} {a b : Int} {la lb : List Int} {r q : Int × List Int × Int} (h : TwoSays f a la b lb r) (k : TwoSays f a la b lb q) : r = q := by
  rcases h with ⟨h1, rfl⟩ | ⟨h1, h2, ⟨h3, rfl⟩ | ⟨h3, vs, h4, rfl⟩⟩ <;> rcases k with ⟨k1, rfl⟩ | ⟨k1, k2, ⟨k3, rfl⟩ | ⟨k3, us, k4, rfl⟩⟩
  · rfl
  · exact absurd ⟨k1, k2⟩ h1
  · exact absurd ⟨k1, k2⟩ h1
  · exact absurd ⟨h1, h2⟩ k1
  · rfl
  · exact absurd k3 h3
  · exact absurd ⟨h1, h2⟩ k1
  · exact absurd h3 k3
  · rw [h4.eq k4 (fun _ _ => rfl)]
theorem TwoSays.bound {f : Bool → Bool → Bool} {a b : Int} {la lb : List Int} {s : Int} {vs : List Int} {c : Int} (h : TwoSays f a la b lb (s, vs, c)) : vs.length ≤ 9223372036854775807 := by
  rcases h with ⟨_, e⟩ | ⟨h1, _, ⟨_, e⟩ | ⟨_, us, h4, e⟩⟩
  · cases e; simp
  · cases e; simp
  · cases e; have := h1.2.1; rw [h4.len]; omega
def MayS (x : S24) : Prop := MayP x.f0 x.f1
def Goods (l : List S24) : Prop := ∀ x ∈ l, Wds x.f1 ∧ x.f1.length ≤ 9223372036854775807
def FitSays (n : Int) (l : List S24) (r : Int) : Prop :=
  (r = 61 ∧ ∃ x ∈ l, ¬ MayS x) ∨ (r = 60 ∧ (∀ x ∈ l, MayS x) ∧ ((n < 0 ∨ 4096 < n) ∨ ∃ x ∈ l, x.f0 ≠ n)) ∨ (r = 0 ∧ (∀ x ∈ l, MayS x) ∧ (∀ x ∈ l, x.f0 = n) ∧ 0 ≤ n ∧ n ≤ 4096)
theorem FitSays.eq {n : Int} {l : List S24} {r q : Int} (h : FitSays n l r) (k : FitSays n l q) : r = q := by
  rcases h with ⟨rfl, x, h1, h2⟩ | ⟨rfl, h1, h2⟩ | ⟨rfl, h1, h2, h3, h4⟩ <;> rcases k with ⟨rfl, y, k1, k2⟩ | ⟨rfl, k1, k2⟩ | ⟨rfl, k1, k2, k3, k4⟩
  · rfl
  · exact absurd (k1 x h1) h2
  · exact absurd (k1 x h1) h2
  · exact absurd (h1 y k1) k2
  · rfl
  · rcases h2 with h2 | ⟨x, h2, h3⟩
    · omega
    · exact absurd (k2 x h2) h3
  · exact absurd (h1 y k1) k2
  · rcases k2 with k2 | ⟨x, k2, k3⟩
    · omega
    · exact absurd (h2 x k2) k3
  · rfl
theorem rd26 {l : List S24} {i : Nat} (h : i < l.length) : rd_T24 l (i : Int) = l[i] := by simp [rd_T24, List.getD_eq_getElem?_getD, List.getElem?_eq_getElem h]
theorem fit_l1 (n : Int) (l : List S24) (hl : l.length ≤ 9223372036854775807) : ∀ d i : Nat, i + d = l.length → ∃ r, Ev (fun k => bitset_fit.l1 k n l (l.length : Int) (i : Int)) r ∧ ((r = 0 ∧ ∀ x ∈ l.drop i, x.f0 = n) ∨ (r = 60 ∧ ∃ x ∈ l.drop i, x.f0 ≠ n)) := by
  intro d
  induction d with
  | zero =>
    intro i hi
    refine ⟨0, ⟨1, fun k hk => ?_⟩, .inl ⟨rfl, ?_⟩⟩
    · obtain ⟨k, rfl⟩ : ∃ m, k = m + 1 := ⟨k - 1, by omega⟩
      simp only [bitset_fit.l1]
      rw [if_neg (by omega)]
    · rw [List.drop_eq_nil_of_le (by omega)]; intro x hx; cases hx
  | succ d ih =>
    intro i hi
    have hlt : i < l.length := by omega
    rw [List.drop_eq_getElem_cons hlt]
    by_cases hx : l[i].f0 = n
    · obtain ⟨r, h1, h2⟩ := ih (i + 1) (by omega)
      refine ⟨r, Ev.step (fun k => ?_) h1, ?_⟩
      · conv => lhs; rw [bitset_fit.l1]
        rw [if_pos (by omega), if_pos (by omega), if_pos (by omega), rd26 hlt, if_pos hx]
        rw [show wrap64 ((i : Int) + 1) = ((i + 1 : Nat) : Int) by unfold wrap64; omega]
      · rcases h2 with ⟨rfl, h2⟩ | ⟨rfl, x, h2, h3⟩
        · refine .inl ⟨rfl, fun x hx' => ?_⟩
          rcases List.mem_cons.1 hx' with rfl | h4
          · exact hx
          · exact h2 x h4
        · exact .inr ⟨rfl, x, List.mem_cons_of_mem _ h2, h3⟩
    · refine ⟨60, ⟨1, fun k hk => ?_⟩, .inr ⟨rfl, l[i], List.mem_cons_self, hx⟩⟩
      obtain ⟨k, rfl⟩ : ∃ m, k = m + 1 := ⟨k - 1, by omega⟩
      simp only [bitset_fit.l1]
      rw [if_pos (by omega), if_pos (by omega), if_pos (by omega), rd26 hlt, if_neg hx]
theorem fit_l0 (n : Int) (l : List S24) (hl : l.length ≤ 9223372036854775807) (hg : Goods l) : ∀ d i : Nat, i + d = l.length →
    (Ev (fun k => bitset_fit.l0 k n l l (l.length : Int) (i : Int)) 61 ∧ ∃ x ∈ l.drop i, ¬ MayS x) ∨ ((∀ x ∈ l.drop i, MayS x) ∧ ∀ r, Ev (fun k => (bitset_sized.f n).bind fun t104 => (if t104 = true then (bitset_fit.l1 k n l (l.length : Int) 0) else (some 60))) r → Ev (fun k => bitset_fit.l0 k n l l (l.length : Int) (i : Int)) r) := by
  intro d
  induction d with
  | zero =>
    intro i hi
    refine .inr ⟨?_, fun r h => Ev.step (fun k => ?_) h⟩
    · rw [List.drop_eq_nil_of_le (by omega)]; intro x hx; cases hx
    · conv => lhs; rw [bitset_fit.l0]
      rw [if_neg (by omega)]
  | succ d ih =>
    intro i hi
    have hlt : i < l.length := by omega
    rw [List.drop_eq_getElem_cons hlt]
    have hgi := hg l[i] (List.getElem_mem hlt)
    have hm := May_eq l[i].f0 l[i].f1 hgi.1 hgi.2
    by_cases hx : MayS l[i]
    · have hstep : ∀ k, bitset_fit.l0 (k + 1) n l l (l.length : Int) (i : Int) = bitset_fit.l0 k n l l (l.length : Int) ((i + 1 : Nat) : Int) := by
        intro k
        conv => lhs; rw [bitset_fit.l0]
        rw [if_pos (by omega), if_pos (by omega), if_pos (by omega), rd26 hlt, hm, may_true.2 hx, Option.bind_some, if_pos rfl]
        rw [show wrap64 ((i : Int) + 1) = ((i + 1 : Nat) : Int) by unfold wrap64; omega]
      rcases ih (i + 1) (by omega) with ⟨h1, x, h2, h3⟩ | ⟨h1, h2⟩
      · exact .inl ⟨Ev.step hstep h1, x, List.mem_cons_of_mem _ h2, h3⟩
      · refine .inr ⟨fun x hx' => ?_, fun r h => Ev.step hstep (h2 r h)⟩
        rcases List.mem_cons.1 hx' with rfl | h4
        · exact hx
        · exact h1 x h4
    · refine .inl ⟨⟨1, fun k hk => ?_⟩, l[i], List.mem_cons_self, hx⟩
      obtain ⟨k, rfl⟩ : ∃ m, k = m + 1 := ⟨k - 1, by omega⟩
      simp only [bitset_fit.l0]
      rw [if_pos (by omega), if_pos (by omega), if_pos (by omega), rd26 hlt, hm, may_false.2 hx, Option.bind_some, if_neg (by simp)]
theorem fit_eq (n : Int) (l : List S24) (hl : l.length ≤ 9223372036854775807) (hg : Goods l) : ∃ r, FitSays n l r ∧ Ev (fun k => bitset_fit.f k n l) r := by
  have h0 := fit_l0 n l hl hg l.length 0 (by omega)
  rw [List.drop_zero] at h0
  rcases h0 with ⟨h1, h2⟩ | ⟨h1, h2⟩
  · exact ⟨61, .inl ⟨rfl, h2⟩, h1⟩
  · by_cases hs : 0 ≤ n ∧ n ≤ 4096
    · obtain ⟨m, rfl⟩ := Int.eq_ofNat_of_zero_le hs.1
      obtain ⟨r, h3, h4⟩ := fit_l1 (m : Int) l hl l.length 0 (by omega)
      rw [List.drop_zero] at h4
      refine ⟨r, ?_, h2 r (Ev.congr (fun k => ?_) h3)⟩
      · rcases h4 with ⟨rfl, h4⟩ | ⟨rfl, h4⟩
        · exact .inr (.inr ⟨rfl, h1, h4, hs⟩)
        · exact .inr (.inl ⟨rfl, h1, .inr h4⟩)
      · rw [sized_yes (by omega), Option.bind_some, if_pos rfl]; rfl
    · refine ⟨60, .inr (.inl ⟨rfl, h1, .inl (by omega)⟩), h2 _ (Ev.const fun k => ?_)⟩
      rw [sized_no (by omega), Option.bind_some, if_neg (by simp)]
theorem rfit_l0 (n : Int) (l : List S24) (hl : l.length ≤ 9223372036854775807) (hg : Goods l) : ∀ (d i : Nat) (e : Int), i + d = l.length → ∃ r, Ev (fun k => sloperef3_fit.l0 k n l e (i : Int)) r ∧
    ((r = 61 ∧ ∃ x ∈ l.drop i, ¬ MayS x) ∨ ((∀ x ∈ l.drop i, MayS x) ∧ ((r = 60 ∧ ∃ x ∈ l.drop i, x.f0 ≠ n) ∨ (r = e ∧ ∀ x ∈ l.drop i, x.f0 = n)))) := by
  intro d
  induction d with
  | zero =>
    intro i e hi
    refine ⟨e, ⟨1, fun k hk => ?_⟩, .inr ?_⟩
    · obtain ⟨k, rfl⟩ : ∃ m, k = m + 1 := ⟨k - 1, by omega⟩
      simp only [sloperef3_fit.l0]
      rw [if_neg (by omega)]
    · rw [List.drop_eq_nil_of_le (by omega)]; exact ⟨fun x hx => (by cases hx), .inr ⟨rfl, fun x hx => (by cases hx)⟩⟩
  | succ d ih =>
    intro i e hi
    have hlt : i < l.length := by omega
    rw [List.drop_eq_getElem_cons hlt]
    have hgi := hg l[i] (List.getElem_mem hlt)
    have hm := rMay_eq l[i].f0 l[i].f1 hgi.1 hgi.2
    by_cases hx : MayS l[i]
    · rw [may_true.2 hx] at hm
      obtain ⟨e', he', hn'⟩ : ∃ e', (e' = if l[i].f0 = n then e else 60) ∧ ∀ k, (if l[i].f0 = n then (sloperef3_fit.l0 k n l e (wrap64 ((i : Int) + 1))) else (sloperef3_fit.l0 k n l 60 (wrap64 ((i : Int) + 1)))) = sloperef3_fit.l0 k n l e' ((i + 1 : Nat) : Int) := by
        refine ⟨_, rfl, fun k => ?_⟩
        rw [show wrap64 ((i : Int) + 1) = ((i + 1 : Nat) : Int) by unfold wrap64; omega]
        split <;> rfl
      obtain ⟨r, h1, h2⟩ := ih (i + 1) e' (by omega)
      refine ⟨r, Ev.step (f := fun k => (sloperef3_May.f k l[i].f0 l[i].f1).bind fun t103 => (if t103 = true then (if l[i].f0 = n then (sloperef3_fit.l0 k n l e (wrap64 ((i : Int) + 1))) else (sloperef3_fit.l0 k n l 60 (wrap64 ((i : Int) + 1)))) else (some 61))) (fun k => ?_) (Ev.bind (f := fun k t103 => (if t103 = true then (if l[i].f0 = n then (sloperef3_fit.l0 k n l e (wrap64 ((i : Int) + 1))) else (sloperef3_fit.l0 k n l 60 (wrap64 ((i : Int) + 1)))) else (some 61))) hm (Ev.congr (fun k => ?_) h1)), ?_⟩
      · conv => lhs; rw [sloperef3_fit.l0]
        rw [if_pos (by omega), if_pos (by omega), rd26 hlt]
      · rw [if_pos rfl, hn']
      · rcases h2 with ⟨rfl, x, h3, h4⟩ | ⟨h3, ⟨rfl, x, h4, h5⟩ | ⟨rfl, h4⟩⟩
        · exact .inl ⟨rfl, x, List.mem_cons_of_mem _ h3, h4⟩
        · exact .inr ⟨fun y hy => (List.mem_cons.1 hy).elim (fun e => e ▸ hx) (h3 y), .inl ⟨rfl, x, List.mem_cons_of_mem _ h4, h5⟩⟩
        · refine .inr ⟨fun y hy => (List.mem_cons.1 hy).elim (fun e => e ▸ hx) (h3 y), ?_⟩
          by_cases hn : l[i].f0 = n
          · rw [if_pos hn] at he'
            exact .inr ⟨he', fun y hy => (List.mem_cons.1 hy).elim (fun e => e ▸ hn) (h4 y)⟩
          · rw [if_neg hn] at he'
            exact .inl ⟨he', l[i], List.mem_cons_self, hn⟩
    · rw [may_false.2 hx] at hm
      refine ⟨61, Ev.step (f := fun k => (sloperef3_May.f k l[i].f0 l[i].f1).bind fun t103 => (if t103 = true then (if l[i].f0 = n then (sloperef3_fit.l0 k n l e (wrap64 ((i : Int) + 1))) else (sloperef3_fit.l0 k n l 60 (wrap64 ((i : Int) + 1)))) else (some 61))) (fun k => ?_) (Ev.bind (f := fun k t103 => (if t103 = true then (if l[i].f0 = n then (sloperef3_fit.l0 k n l e (wrap64 ((i : Int) + 1))) else (sloperef3_fit.l0 k n l 60 (wrap64 ((i : Int) + 1)))) else (some 61))) hm (Ev.const fun k => ?_)), .inl ⟨rfl, l[i], List.mem_cons_self, hx⟩⟩
      · conv => lhs; rw [sloperef3_fit.l0]
        rw [if_pos (by omega), if_pos (by omega), rd26 hlt]
      · rw [if_neg (by simp)]
theorem rfit_eq (n : Int) (l : List S24) (hl : l.length ≤ 9223372036854775807) (hg : Goods l) : ∃ r, FitSays n l r ∧ Ev (fun k => sloperef3_fit.f k n l) r := by
  by_cases hs : 0 ≤ n ∧ n ≤ 4096
  · obtain ⟨m, rfl⟩ := Int.eq_ofNat_of_zero_le hs.1
    obtain ⟨r, h1, h2⟩ := rfit_l0 (m : Int) l hl hg l.length 0 0 (by omega)
    rw [List.drop_zero] at h2
    refine ⟨r, ?_, Ev.congr (f := fun k => sloperef3_fit.j0 k (m : Int) l 0) (fun k => ?_) (Ev.step (fun k => ?_) h1)⟩
    · rcases h2 with h2 | ⟨h2, ⟨rfl, h3⟩ | ⟨rfl, h3⟩⟩
      · exact .inl h2
      · exact .inr (.inl ⟨rfl, h2, .inr h3⟩)
      · exact .inr (.inr ⟨rfl, h2, h3, hs⟩)
    · unfold sloperef3_fit.f
      rw [rsized_yes (by omega), Option.bind_some, if_pos rfl]
    · rw [sloperef3_fit.j0]; rfl
  · obtain ⟨r, h1, h2⟩ := rfit_l0 n l hl hg l.length 0 60 (by omega)
    rw [List.drop_zero] at h2
    refine ⟨r, ?_, Ev.congr (f := fun k => sloperef3_fit.j0 k n l 60) (fun k => ?_) (Ev.step (fun k => ?_) h1)⟩
    · rcases h2 with h2 | ⟨h2, ⟨rfl, h3⟩ | ⟨rfl, h3⟩⟩
      · exact .inl h2
      · exact .inr (.inl ⟨rfl, h2, .inr h3⟩)
      · exact .inr (.inl ⟨rfl, h2, .inl (by omega)⟩)
    · unfold sloperef3_fit.f
      rw [rsized_no (by omega), Option.bind_some, if_neg (by simp)]
    · rw [sloperef3_fit.j0]; rfl
def TabP (n : Int) (l : List S24) : Prop := 0 ≤ n ∧ n ≤ 4096 ∧ l.length ≤ 4096 ∧ ∀ x ∈ l, MayS x ∧ x.f0 = n
noncomputable def tabp (n : Int) (l : List S24) : Bool := @decide (TabP n l) (Classical.propDecidable _)
theorem tabp_true {n : Int} {l : List S24} : tabp n l = true ↔ TabP n l := by unfold tabp; exact @decide_eq_true_iff _ (Classical.propDecidable _)
theorem tabp_false {n : Int} {l : List S24} : tabp n l = false ↔ ¬ TabP n l := by unfold tabp; exact @decide_eq_false_iff_not _ (Classical.propDecidable _)
theorem MayTable_eq (n : Int) (l : List S24) (hl : l.length ≤ 9223372036854775807) (hg : Goods l) : Ev (fun k => bitset_MayTable.f k n l) (tabp n l) := by
  by_cases h : l.length ≤ 4096
  · obtain ⟨r, h1, h2⟩ := fit_eq n l hl hg
    have hb : (r == 0) = tabp n l := by
      rcases h1 with ⟨rfl, x, k1, k2⟩ | ⟨rfl, k1, k2⟩ | ⟨rfl, k1, k2, k3, k4⟩
      · exact (tabp_false.2 fun k => k2 (k.2.2.2 x k1).1).symm
      · refine (tabp_false.2 fun k => ?_).symm
        rcases k2 with k2 | ⟨x, k2, k3⟩
        · have := k.1; have := k.2.1; omega
        · exact k3 (k.2.2.2 x k2).2
      · exact (tabp_true.2 ⟨k3, k4, h, fun x hx => ⟨k1 x hx, k2 x hx⟩⟩).symm
    rw [← hb]
    refine Ev.congr (f := fun k => (bitset_fit.f k n l).bind fun t102 => some (t102 == 0)) (fun k => ?_) (Ev.bind (f := fun _ t102 => some (t102 == 0)) h2 (Ev.now _))
    unfold bitset_MayTable.f
    rw [if_pos (by omega)]
  · rw [tabp_false.2 fun k => h k.2.2.1]
    refine Ev.const fun k => ?_
    unfold bitset_MayTable.f
    rw [if_neg (by omega)]
theorem rMayTable_l0 (n : Int) (l : List S24) (hl : l.length ≤ 9223372036854775807) (hg : Goods l) : ∀ d i : Nat, i + d = l.length → ∃ b : Bool, Ev (fun k => sloperef3_MayTable.l0 k (i : Int) n l) b ∧ (b = true ↔ ∀ x ∈ l.drop i, MayS x ∧ x.f0 = n) := by
  intro d
  induction d with
  | zero =>
    intro i hi
    refine ⟨true, ⟨1, fun k hk => ?_⟩, ?_⟩
    · obtain ⟨k, rfl⟩ : ∃ m, k = m + 1 := ⟨k - 1, by omega⟩
      simp only [sloperef3_MayTable.l0]
      rw [if_neg (by omega)]
    · rw [List.drop_eq_nil_of_le (by omega)]; exact ⟨fun _ x hx => (by cases hx), fun _ => rfl⟩
  | succ d ih =>
    intro i hi
    have hlt : i < l.length := by omega
    rw [List.drop_eq_getElem_cons hlt]
    have hgi := hg l[i] (List.getElem_mem hlt)
    have hm := rMay_eq l[i].f0 l[i].f1 hgi.1 hgi.2
    have hs : ∀ k, sloperef3_MayTable.l0 (k + 1) (i : Int) n l = (sloperef3_May.f k l[i].f0 l[i].f1).bind fun t103 => (if t103 = true then (if l[i].f0 = n then (sloperef3_MayTable.l0 k ((i + 1 : Nat) : Int) n l) else (some false)) else (some false)) := by
      intro k
      conv => lhs; rw [sloperef3_MayTable.l0]
      rw [if_pos (by omega), if_pos (by omega), rd26 hlt, show wrap64 ((i : Int) + 1) = ((i + 1 : Nat) : Int) by unfold wrap64; omega]
    by_cases hx : MayS l[i]
    · rw [may_true.2 hx] at hm
      by_cases hn : l[i].f0 = n
      · obtain ⟨b, h1, h2⟩ := ih (i + 1) (by omega)
        refine ⟨b, Ev.step hs (Ev.bind (f := fun k t103 => (if t103 = true then (if l[i].f0 = n then (sloperef3_MayTable.l0 k ((i + 1 : Nat) : Int) n l) else (some false)) else (some false))) hm (Ev.congr (fun k => ?_) h1)), h2.trans ⟨fun h x hx' => (List.mem_cons.1 hx').elim (fun e => e ▸ ⟨hx, hn⟩) (h x), fun h x hx' => h x (List.mem_cons_of_mem _ hx')⟩⟩
        rw [if_pos rfl, if_pos hn]
      · refine ⟨false, Ev.step hs (Ev.bind (f := fun k t103 => (if t103 = true then (if l[i].f0 = n then (sloperef3_MayTable.l0 k ((i + 1 : Nat) : Int) n l) else (some false)) else (some false))) hm (Ev.const fun k => ?_)), ⟨fun h => (by cases h), fun h => absurd (h l[i] List.mem_cons_self).2 hn⟩⟩
        rw [if_pos rfl, if_neg hn]
    · rw [may_false.2 hx] at hm
      refine ⟨false, Ev.step hs (Ev.bind (f := fun k t103 => (if t103 = true then (if l[i].f0 = n then (sloperef3_MayTable.l0 k ((i + 1 : Nat) : Int) n l) else (some false)) else (some false))) hm (Ev.const fun k => ?_)), ⟨fun h => (by cases h), fun h => absurd (h l[i] List.mem_cons_self).1 hx⟩⟩
      rw [if_neg (by simp)]
theorem rMayTable_eq (n : Int) (l : List S24) (hl : l.length ≤ 9223372036854775807) (hg : Goods l) : Ev (fun k => sloperef3_MayTable.f k n l) (tabp n l) := by
  by_cases h : 0 ≤ n ∧ n ≤ 4096 ∧ l.length ≤ 4096
  · obtain ⟨b, h1, h2⟩ := rMayTable_l0 n l hl hg l.length 0 (by omega)
    rw [List.drop_zero] at h2
    have hb : b = tabp n l := by
      rw [Bool.eq_iff_iff, h2, tabp_true]
      exact ⟨fun k => ⟨h.1, h.2.1, h.2.2, k⟩, fun k => k.2.2.2⟩
    rw [← hb]
    refine Ev.congr (f := fun k => sloperef3_MayTable.j0 k false n l) (fun k => ?_) (Ev.step (fun k => ?_) h1)
    · unfold sloperef3_MayTable.f
      rw [if_neg (by omega), if_neg (by omega), decide_eq_false (by omega)]
    · rw [sloperef3_MayTable.j0]
      rw [if_neg (by simp)]; rfl
  · rw [tabp_false.2 fun k => h ⟨k.1, k.2.1, k.2.2.1⟩]
    refine Ev.congr (f := fun k => sloperef3_MayTable.j0 k true n l) (fun k => ?_) (Ev.step (f := fun _ => some false) (fun k => ?_) (Ev.now _))
    · unfold sloperef3_MayTable.f
      by_cases h0 : n < 0
      · rw [if_pos h0]
      · rw [if_neg h0]
        by_cases h1 : n > 4096
        · rw [if_pos h1]
        · rw [if_neg h1, decide_eq_true (by omega)]
    · rw [sloperef3_MayTable.j0]
      rw [if_pos rfl]
def Lt (n : Nat) (p q : Nat → Bool) : Prop := ∃ e, e < n ∧ p e = false ∧ q e = true ∧ ∀ d, e < d → d < n → p d = q d
theorem Lt.trans {n : Nat} {p q r : Nat → Bool} (h : Lt n p q) (k : Lt n q r) : Lt n p r := by
  obtain ⟨e, h1, h2, h3, h4⟩ := h
  obtain ⟨f, k1, k2, k3, k4⟩ := k
  rcases Nat.lt_trichotomy e f with hef | rfl | hef
  · exact ⟨f, k1, (h4 f hef k1).trans k2, k3, fun d h5 h6 => (h4 d (by omega) h6).trans (k4 d h5 h6)⟩
  · rw [h3] at k2; cases k2
  · exact ⟨e, h1, h2, (k4 e hef h1).symm.trans h3, fun d h5 h6 => (h4 d h5 h6).trans (k4 d (by omega) h6)⟩
theorem Lt.congr {n : Nat} {p q p' q' : Nat → Bool} (h : Lt n p q) (hp : ∀ d, d < n → p d = p' d) (hq : ∀ d, d < n → q d = q' d) : Lt n p' q' := by
  obtain ⟨e, h1, h2, h3, h4⟩ := h
  exact ⟨e, h1, (hp e h1).symm.trans h2, (hq e h1).symm.trans h3, fun d h5 h6 => (hp d h6).symm.trans ((h4 d h5 h6).trans (hq d h6))⟩
theorem same_sets (n : Int) (l : List Int) (hb : l.length ≤ 9223372036854775807) : ∃ k, slopelaw3_same.f k n l n l = some true := by
  have key : ∀ d i : Nat, i + d = l.length → ∃ k, slopelaw3_same.l0 k (i : Int) n l n l = some true := by
    intro d
    induction d with
    | zero => intro i h; exact ⟨1, by simp only [slopelaw3_same.l0]; rw [if_neg (by omega)]⟩
    | succ d ih =>
      intro i h
      obtain ⟨k, hk⟩ := ih (i + 1) (by omega)
      refine ⟨k + 1, ?_⟩
      simp only [slopelaw3_same.l0]
      rw [if_pos (by omega), if_pos (by omega), if_pos (by omega)]
      rw [show wrap64 ((i : Int) + 1) = ((i + 1 : Nat) : Int) by unfold wrap64; omega]
      simpa using hk
  obtain ⟨k, hk⟩ := key l.length 0 (by omega)
  refine ⟨k + 1, ?_⟩
  unfold slopelaw3_same.f
  rw [if_pos rfl]
  simp only [slopelaw3_same.j0]
  rw [if_neg (by simp)]
  exact hk
theorem same_ev (n : Int) (l : List Int) (hb : l.length ≤ 9223372036854775807) : Ev (fun k => slopelaw3_same.f k n l n l) true := by
  obtain ⟨k, hk⟩ := same_sets n l hb
  exact Ev.of (fun k => slopelaw3_same.mono _ _ _ _ k) hk
end Go.Proofs.YtjmkhdhffmlhiaaDoor.PAll
end
section
namespace Go.Proofs.YtjmkhdhffmlhiaaDoor.PAll
open Go.ChangeShapes Go.WideShapes Go.RowKit Go.Proofs.YtjmkhdhffmlhiaaDoorW.PrintWords Go.Proofs.YtjmkhdhffmlhiaaDoorW.PrintMore
def good26 (x : S24) : Prop := (Lit.int .i64 x.f0).wf = true ∧ Wds x.f1 ∧ x.f1.length * 8 ≤ 140737488351232
theorem wf_wd {x : Int} (h : (Lit.int .u64 x).wf = true) : Wd x := by
  simp [Lit.wf, IntKind.min, IntKind.max, IntKind.signed, IntKind.bits] at h
  unfold Wd
  omega
theorem reads26 : Reads Tryd.prog 24 k24 good26 := by
  have hi : Reads Tryd.prog 3 (Kd.int .i64) _ := Reads.int Tryd.underlying3 (by kernel_rfl)
  have hu : Reads Tryd.prog 87 (Kd.int .u64) _ := Reads.int Tryd.underlying87 (by kernel_rfl)
  have hs := Reads.slice Tryd.underlying22 (by kernel_rfl) hu
  have hp := Reads.struct2 Tryd.underlying24 hi hs rfl (by kernel_rfl) (by kernel_rfl)
  have h := Reads.iso hp (fun x : S24 => (x.f0, x.f1)) (fun p => ⟨p.1, p.2⟩) (fun _ => rfl)
  have hb : Tryd.prog.bytesOf 87 = 8 := by kernel_rfl
  refine ⟨h.sz, fun hf hw => ?_⟩
  obtain ⟨a, h1, h2, h3, h4⟩ := h.opens hf hw
  rw [hb] at h4
  exact ⟨a, h1, h2, fun x hx => wf_wd (h3 x hx), h4⟩
theorem reads38 : Reads Tryd.prog 54 (Kd.slice 24 k24) (fun l => (∀ x ∈ l, good26 x) ∧ l.length * 32 ≤ 140737488351232) := by
  have h := Reads.slice Tryd.underlying54 (by kernel_rfl) reads26
  have hb : Tryd.prog.bytesOf 24 = 32 := by kernel_rfl
  rw [hb] at h
  exact h
set_option maxRecDepth 100000
section
variable {H : Type} {enc : TypeId × Value → H} {W : World} {r : Reach} {base : Nat} {spare : Nat → Bool} {held : Bool} {v : Value} {y : DataW H} {p : List MemPlace} {ts : List TypeId} {ds : List (DataW H)} {j : Nat}
theorem open_sets (hval : Value.okWide Tryd.prog W r base 54 v) (h : DataW.Trod enc Tryd.prog W 0 spare held 54 v y p) (hsz : (DataW.weightsEach Tryd.prog ts ds).all (· ≤ reachBytes) = true) (ht : ts[j]? = some 54) (hd : ds[j]? = some y) :
    ∃ A c l, v = .slice A l.length c ∧ l.length ≤ c ∧ Kd.C k24 W A l.length l ∧ (∀ x ∈ l, good26 x) ∧ l.length * 32 ≤ 140737488351232 := by
  obtain ⟨a, ⟨A, c, e, hl, hc⟩, h2, h3⟩ := reads38.param h hsz ht hd
  obtain ⟨A', n', c', rfl⟩ := okWide_slice Tryd.underlying54 hval
  have e2 : Value.slice A' n' c' = .slice A a.length c := by simpa [Value.cells] using e
  exact ⟨A, c, a, e2, hl, hc, h2, h3⟩
end
theorem Goods.of {l : List S24} (h : ∀ x ∈ l, good26 x) : Goods l := fun x hx => ⟨(h x hx).2.1, by have := (h x hx).2.2; omega⟩
end Go.Proofs.YtjmkhdhffmlhiaaDoor.PAll
end
section
namespace Go.Proofs.YtjmkhdhffmlhiaaDoor.PAll
open Go.RowKit Go.Proofs.YtjmkhdhffmlhiaaDoorW.PrintWords Go.Proofs.YtjmkhdhffmlhiaaDoorW.PrintLast Go.Proofs.YtjmkhdhffmlhiaaDoorW.PrintMore
attribute [local go_sem] max2_int min2_int max_two min_two max_three min_three max_four min_four w64_u8 w64_mod256   -- for this text's walks alone
set_option linter.unusedVariables false
set_option linter.unusedSimpArgs false
end Go.Proofs.YtjmkhdhffmlhiaaDoor.PAll
end
section
namespace Go.Proofs.YtjmkhdhffmlhiaaDoor.PAll
set_option linter.unusedVariables false
open Go.RowKit Go.Proofs.YtjmkhdhffmlhiaaDoorW.PrintWords Go.Proofs.YtjmkhdhffmlhiaaDoorW.PrintLast Go.Proofs.YtjmkhdhffmlhiaaDoorW.PrintMore
set_option maxHeartbeats 1000000 in
theorem tz64_core (x k idx : Nat) (w : World) (hx0 : ((x : Int) == 0) = false)
    (key : IntKind.u64.wrap (bits BinOp.and IntKind.u64 (x : Int) (IntKind.u64.wrap (-(x : Int))) * 285870213051353865) / 288230376151711744 = (idx : Int))
    (hi : idx < 64) (hk : k < 64) (hcell : w.cell? ⟨0, idx, none⟩ = some (.int .u8 k)) :
    Calls Tryd.prog 80 #[.int .u64 x] w fun e w' => e = .returned (.int .i64 k) ∧ w' = w := by
  go_enter Tryd.func80, Tryd.ntmps80
  go_wp2_with (simp only [key])
  go_ret
  exact ⟨rfl, rfl⟩
theorem tz64_zero (w : World) :
    Calls Tryd.prog 80 #[.int .u64 0] w fun e w' => e = .returned (.int .i64 64) ∧ w' = w := by
  go_enter Tryd.func80, Tryd.ntmps80
  go_wp2
  go_ret
  exact ⟨rfl, rfl⟩
theorem tz64_key (x a : Nat) (hx : x < 18446744073709551616) (hx0 : x ≠ 0) (hlow : x &&& (18446744073709551616 - x) = a) :
    IntKind.u64.wrap (bits BinOp.and IntKind.u64 (x : Int) (IntKind.u64.wrap (-(x : Int))) * 285870213051353865) / 288230376151711744 = ((a * 285870213051353865 % 18446744073709551616 / 288230376151711744 : Nat) : Int) := by
  have e1 : IntKind.u64.wrap (-(x : Int)) = ((18446744073709551616 - x : Nat) : Int) := by rw [IntKind.wrap_u64]; omega
  rw [e1, bits_and_u64_nat x _ hx (by omega), hlow, IntKind.wrap_u64]
  omega
end Go.Proofs.YtjmkhdhffmlhiaaDoor.PAll
end
section
namespace Go.Proofs.YtjmkhdhffmlhiaaDoor.PAll
open Go.RowKit Go.Proofs.YtjmkhdhffmlhiaaDoorW.PrintWords Go.Proofs.YtjmkhdhffmlhiaaDoorW.PrintLast Go.Proofs.YtjmkhdhffmlhiaaDoorW.PrintMore
attribute [local go_sem] max2_int min2_int max_two min_two max_three min_three max_four min_four w64_u8 w64_mod256   -- for this text's walks alone
set_option linter.unusedVariables false
set_option linter.unusedSimpArgs false
end Go.Proofs.YtjmkhdhffmlhiaaDoor.PAll
end
section
namespace Go.Proofs.YtjmkhdhffmlhiaaDoor.PAll
open Go.RowKit Go.Proofs.YtjmkhdhffmlhiaaDoorW.PrintWords Go.Proofs.YtjmkhdhffmlhiaaDoorW.PrintLast Go.Proofs.YtjmkhdhffmlhiaaDoorW.PrintMore
attribute [local go_sem] max2_int min2_int max_two min_two max_three min_three max_four min_four w64_u8 w64_mod256   -- for this text's walks alone
set_option linter.unusedVariables false
set_option linter.unusedSimpArgs false
end Go.Proofs.YtjmkhdhffmlhiaaDoor.PAll
end
section
namespace Go.Proofs.YtjmkhdhffmlhiaaDoor.PAll
open Go.RowKit Go.Proofs.YtjmkhdhffmlhiaaDoorW.PrintWords Go.Proofs.YtjmkhdhffmlhiaaDoorW.PrintLast Go.Proofs.YtjmkhdhffmlhiaaDoorW.PrintMore
attribute [local go_sem] max2_int min2_int max_two min_two max_three min_three max_four min_four w64_u8 w64_mod256   -- for this text's walks alone
set_option linter.unusedVariables false
set_option linter.unusedSimpArgs false
end Go.Proofs.YtjmkhdhffmlhiaaDoor.PAll
end
section
namespace Go.Proofs.YtjmkhdhffmlhiaaDoor.PAll
open Go.RowKit Go.Proofs.YtjmkhdhffmlhiaaDoorW.PrintWords Go.Proofs.YtjmkhdhffmlhiaaDoorW.PrintLast Go.Proofs.YtjmkhdhffmlhiaaDoorW.PrintMore
attribute [local go_sem] max2_int min2_int max_two min_two max_three min_three max_four min_four w64_u8 w64_mod256   -- for this text's walks alone
set_option linter.unusedVariables false
set_option linter.unusedSimpArgs false
end Go.Proofs.YtjmkhdhffmlhiaaDoor.PAll
end
section
namespace Go.Proofs.YtjmkhdhffmlhiaaDoor.PAll
open Go.RowKit Go.Proofs.YtjmkhdhffmlhiaaDoorW.PrintWords Go.Proofs.YtjmkhdhffmlhiaaDoorW.PrintLast Go.Proofs.YtjmkhdhffmlhiaaDoorW.PrintMore
attribute [local go_sem] max2_int min2_int max_two min_two max_three min_three max_four min_four w64_u8 w64_mod256   -- for this text's walks alone
set_option linter.unusedVariables false
set_option linter.unusedSimpArgs false
end Go.Proofs.YtjmkhdhffmlhiaaDoor.PAll
end
section
namespace Go.Proofs.YtjmkhdhffmlhiaaDoor.PAll
set_option linter.unusedVariables false
open Go.RowKit Go.Proofs.YtjmkhdhffmlhiaaDoorW.PrintWords Go.Proofs.YtjmkhdhffmlhiaaDoorW.PrintMore
def rk (ws : List Int) (e : Nat) : Nat := (List.range e).countP (hb ws)
def cl (N : Nat) (e : Int) : Nat := min e.toNat N
theorem low_off {x : Nat} (h0 : 0 < x) (hx : x < 2 ^ 64) : Lib.ctz 64 x < 64 ∧ x.testBit (Lib.ctz 64 x) = true ∧ (∀ j, j < Lib.ctz 64 x → x.testBit j = false) ∧ (∀ j, (x &&& (x - 1)).testBit j = (x.testBit j && !decide (j = Lib.ctz 64 x))) := by
  obtain ⟨m, h1, h2⟩ := Lib.ctzFrom_spec 64 x h0 hx
  have hc : Lib.ctz 64 x = Lib.ctzFrom 64 x := by unfold Lib.ctz; rw [if_neg (by omega)]
  rw [hc]
  generalize Lib.ctzFrom 64 x = c at h1 h2
  have hb1 : ∀ j, x.testBit j = (decide (j ≥ c) && (2 * m + 1).testBit (j - c)) := fun j => by rw [h1, Nat.testBit_two_pow_mul]
  have hp0 : 0 < (2 : Nat) ^ c := Nat.two_pow_pos c
  have hand : x &&& (x - 1) = 2 ^ c * (2 * m) := by
    have e1 : x - 1 = 2 ^ c * (2 * m) + (2 ^ c - 1) := by rw [h1, Nat.mul_add]; omega
    have h3 : (2 ^ c * (2 * m + 1)) &&& (2 ^ c * (2 * m) + (2 ^ c - 1)) = 2 ^ c * ((2 * m + 1) &&& (2 * m)) := by
      have h := and_split c 0 (2 ^ c - 1) (2 * m + 1) (2 * m) hp0 (by omega)
      rw [Nat.zero_and] at h
      simpa only [Nat.add_zero] using h
    rw [e1, h1, h3]
    congr 1
    apply Nat.eq_of_testBit_eq
    intro j
    rw [Nat.testBit_and]
    cases j with
    | zero => simp [Nat.testBit_zero]
    | succ j => rw [Nat.testBit_succ, Nat.testBit_succ, show (2 * m + 1) / 2 = m by omega, show 2 * m / 2 = m by omega, Bool.and_self]
  refine ⟨h2, ?_, fun j hj => ?_, fun j => ?_⟩
  · rw [hb1, Nat.sub_self]; simp [Nat.testBit_zero]
  · rw [hb1, decide_eq_false (by omega), Bool.false_and]
  · rw [hand, Nat.testBit_two_pow_mul, hb1]
    by_cases hj : j = c
    · subst hj
      simp [Nat.testBit_zero]
    · rw [decide_eq_false hj, Bool.not_false, Bool.and_true]
      by_cases hge : j ≥ c
      · rw [decide_eq_true hge, Bool.true_and, Bool.true_and]
        obtain ⟨t, rfl⟩ : ∃ t, j = c + (t + 1) := ⟨j - c - 1, by omega⟩
        rw [show c + (t + 1) - c = t + 1 by omega, Nat.testBit_succ, Nat.testBit_succ, show (2 * m + 1) / 2 = m by omega, show 2 * m / 2 = m by omega]
      · rw [decide_eq_false hge, Bool.false_and, Bool.false_and]
end Go.Proofs.YtjmkhdhffmlhiaaDoor.PAll
end
section
namespace Go.Proofs.YtjmkhdhffmlhiaaDoor.PAll
open Go.RowKit Go.Proofs.YtjmkhdhffmlhiaaDoorW.PrintWords Go.Proofs.YtjmkhdhffmlhiaaDoorW.PrintLast Go.Proofs.YtjmkhdhffmlhiaaDoorW.PrintMore
attribute [local go_sem] max2_int min2_int max_two min_two max_three min_three max_four min_four w64_u8 w64_mod256   -- for this text's walks alone
set_option linter.unusedVariables false
set_option linter.unusedSimpArgs false
end Go.Proofs.YtjmkhdhffmlhiaaDoor.PAll
end
section
namespace Go.Proofs.YtjmkhdhffmlhiaaDoor.PAll
open Go.RowKit Go.Proofs.YtjmkhdhffmlhiaaDoorW.PrintWords Go.Proofs.YtjmkhdhffmlhiaaDoorW.PrintLast Go.Proofs.YtjmkhdhffmlhiaaDoorW.PrintMore
attribute [local go_sem] max2_int min2_int max_two min_two max_three min_three max_four min_four w64_u8 w64_mod256   -- for this text's walks alone
set_option linter.unusedVariables false
set_option linter.unusedSimpArgs false
end Go.Proofs.YtjmkhdhffmlhiaaDoor.PAll
end
section
namespace Go.Proofs.YtjmkhdhffmlhiaaDoor.PAll
open Go.RowKit Go.Proofs.YtjmkhdhffmlhiaaDoorW.PrintWords Go.Proofs.YtjmkhdhffmlhiaaDoorW.PrintLast Go.Proofs.YtjmkhdhffmlhiaaDoorW.PrintMore
attribute [local go_sem] max2_int min2_int max_two min_two max_three min_three max_four min_four w64_u8 w64_mod256   -- for this text's walks alone
set_option linter.unusedVariables false
set_option linter.unusedSimpArgs false
end Go.Proofs.YtjmkhdhffmlhiaaDoor.PAll
end
section
namespace Go.Proofs.YtjmkhdhffmlhiaaDoor.PAll
set_option linter.unusedVariables false
open Go.RowKit Go.Proofs.YtjmkhdhffmlhiaaDoorW.PrintWords Go.Proofs.YtjmkhdhffmlhiaaDoorW.PrintMore
def els (N : Nat) (ws : List Int) : List Int := ((List.range N).filter (hb ws)).map (fun e : Nat => (e : Int))
end Go.Proofs.YtjmkhdhffmlhiaaDoor.PAll
end
section
namespace Go.Proofs.YtjmkhdhffmlhiaaDoor.PAll
set_option linter.unusedVariables false
open Go.RowKit Go.Shelf Go.Proofs.YtjmkhdhffmlhiaaDoorW.PrintWords Go.Proofs.YtjmkhdhffmlhiaaDoorW.PrintMore
attribute [local go_sem] Oper.semAt_some
def bl (i : Nat) (x : Int) : List Int := ((List.range 64).filter (tb x)).map (fun j : Nat => ((64 * i + j : Nat) : Int))
theorem bl_zero (i : Nat) : bl i 0 = [] := by
  unfold bl
  rw [List.filter_eq_nil_iff.2 (fun j _ => by rw [tb_zero]; simp)]
  rfl
theorem bl_cons (i : Nat) {x : Int} (hx : Wd x) (h0 : x ≠ 0) : Wd ((x.toNat &&& (x.toNat - 1) : Nat) : Int) ∧ x.toNat &&& (x.toNat - 1) < x.toNat ∧ Lib.ctz 64 x.toNat < 64 ∧ Go.bits .and .u64 x (IntKind.u64.wrap (x - 1)) = ((x.toNat &&& (x.toNat - 1) : Nat) : Int) ∧
    bl i x = ((64 * i + Lib.ctz 64 x.toNat : Nat) : Int) :: bl i ((x.toNat &&& (x.toNat - 1) : Nat) : Int) := by
  have hn := hx.nat
  have hp : 0 < x.toNat := by unfold Wd at hx; omega
  obtain ⟨c1, c2, c3, c4⟩ := low_off hp hn.1
  have hlt : x.toNat &&& (x.toNat - 1) < 2 ^ 64 := Nat.and_lt_two_pow _ (by omega)
  have hx1 : IntKind.u64.wrap (x - 1) = ((x.toNat - 1 : Nat) : Int) := by rw [show x - 1 = ((x.toNat - 1 : Nat) : Int) by omega]; exact wrap_nat _ (by omega)
  refine ⟨Wd.of hlt, Nat.lt_of_le_of_lt Nat.and_le_right (by omega), c1, ?_, ?_⟩
  · rw [hx1]
    conv => lhs; rw [← hn.2]
    exact and_nat _ _ hn.1 (by omega)
  have htb : ∀ j, tb ((x.toNat &&& (x.toNat - 1) : Nat) : Int) j = (tb x j && !decide (j = Lib.ctz 64 x.toNat)) := fun j => by
    unfold tb; rw [Int.toNat_natCast]; exact c4 j
  have c2' : tb x (Lib.ctz 64 x.toNat) = true := c2
  have c3' : ∀ j, j < Lib.ctz 64 x.toNat → tb x j = false := c3
  unfold bl
  generalize Lib.ctz 64 x.toNat = c at c1 c2' c3' htb ⊢
  rw [show (64 : Nat) = c + 1 + (63 - c) by omega, List.range_add, List.range_succ, List.filter_append, List.filter_append, List.filter_append, List.filter_append]
  have e1 : (List.range c).filter (tb x) = [] := List.filter_eq_nil_iff.2 (fun j hj => by rw [c3' j (List.mem_range.1 hj)]; simp)
  have e2 : (List.range c).filter (tb ((x.toNat &&& (x.toNat - 1) : Nat) : Int)) = [] := List.filter_eq_nil_iff.2 (fun j hj => by rw [htb, c3' j (List.mem_range.1 hj)]; simp)
  have e3 : [c].filter (tb x) = [c] := by simp [c2']
  have e4 : [c].filter (tb ((x.toNat &&& (x.toNat - 1) : Nat) : Int)) = [] := by simp [htb]
  have e5 : ((List.range (63 - c)).map (fun t => c + 1 + t)).filter (tb ((x.toNat &&& (x.toNat - 1) : Nat) : Int)) = ((List.range (63 - c)).map (fun t => c + 1 + t)).filter (tb x) := by
    refine List.filter_congr fun j hj => ?_
    obtain ⟨t, _, rfl⟩ := List.mem_map.1 hj
    rw [htb, decide_eq_false (by omega)]; simp
  rw [e1, e2, e3, e4, e5]
  simp
theorem els_word (ws : List Int) (i : Nat) : els (64 * (i + 1)) ws = els (64 * i) ws ++ bl i (ws.getD i 0) := by
  unfold els bl
  rw [show 64 * (i + 1) = 64 * i + 64 by omega, List.range_add, List.filter_append, List.map_append, List.filter_map, List.map_map]
  congr 1
  have : (List.range 64).filter (hb ws ∘ fun x => 64 * i + x) = (List.range 64).filter (tb (ws.getD i 0)) := by
    refine List.filter_congr fun j hj => ?_
    have := List.mem_range.1 hj
    simp only [Function.comp]
    unfold hb
    rw [show (64 * i + j) / 64 = i by omega, show (64 * i + j) % 64 = j by omega]
  rw [this]
  rfl
theorem els_grow (ws : List Int) (i k : Nat) (h : i ≤ k) : ∃ r, els (64 * k) ws = els (64 * i) ws ++ r := by
  obtain ⟨d, rfl⟩ : ∃ d, k = i + d := ⟨k - i, by omega⟩
  clear h
  induction d with
  | zero => exact ⟨[], by simp⟩
  | succ d ih =>
    obtain ⟨r, hr⟩ := ih
    refine ⟨r ++ bl (i + d) (ws.getD (i + d) 0), ?_⟩
    rw [← Nat.add_assoc, els_word, hr, List.append_assoc]
theorem tz_calls {x : Int} (hx : Wd x) (w : World) (hG : Tz w) : Calls Tryd.prog 80 #[.int .u64 x] w fun e w' => e = .returned (.int .i64 (Lib.ctz 64 x.toNat : Int)) ∧ w' = w := by
  have hn := hx.nat
  obtain ⟨y, rfl⟩ := Int.eq_ofNat_of_zero_le hx.1
  rw [Int.toNat_natCast] at hn ⊢
  by_cases hx0 : y = 0
  · subst hx0
    exact (tz64_zero w).mono fun e w' hh => hh
  · obtain ⟨hlow, hk⟩ := Lib.lowest_bit 64 y hx0 hn.1
    obtain ⟨hi, htab⟩ := Lib.deBruijn64_at _ hk
    have hcell := hG _ hi
    rw [htab] at hcell
    exact tz64_core y _ _ w (by simp; omega) (tz64_key y _ hn.1 hx0 hlow) hi hk hcell
def Ke (K : Nat → Prop) (A B : World) : Prop := ∀ k, K k → B.heap[k]? = A.heap[k]?
theorem Ke.refl (K : Nat → Prop) (A : World) : Ke K A A := fun _ _ => rfl
theorem Ke.trans {K : Nat → Prop} {A B C : World} (h : Ke K A B) (g : Ke K B C) : Ke K A C := fun k hk => (g k hk).trans (h k hk)
theorem Ke.cell {K : Nat → Prop} {A B : World} (h : Ke K A B) {k : Nat} (hk : K k) (i : Nat) : B.cell? ⟨k, i, none⟩ = A.cell? ⟨k, i, none⟩ := by
  have := h k hk
  simp [World.cell?, this]
theorem tz_ke {K : Nat → Prop} {w W : World} (hg : K 0) (h : Tz w) (hb : Ke K w W) : Tz W := fun j hj => (hb.cell hg j).trans (h j hj)
set_option maxRecDepth 100000 in
set_option maxHeartbeats 4000000 in
theorem all1_in (K : Nat → Prop) (n : Nat) (hn : 1 ≤ n) (l Bs b off len cap : Nat) (ws : List Int) (hw : Wds ws) (hlen : ws.length = len) (h64 : len ≤ 64) (hb : K b) (hg : K 0) (J Jx : List Int → World → Prop)
    (hY : ∀ pre x W, J pre W → pre.length < (els (64 * len) ws).length → (pre ++ [x]) <+: els (64 * len) ws → YieldAt Fence.wide (n - 1) Tryd.prog l #[.int .i64 x] W fun e W' =>
      (e = .returned (.bool true) ∧ J (pre ++ [x]) W' ∧ Ke K W W') ∨ (e = .returned (.bool false) ∧ Jx (pre ++ [x]) W'))
    (W : World) (hBs : W.cell? ⟨Bs, 0, none⟩ = some (.slice (some ⟨b, off, none⟩) len cap)) (hc : ∀ j, j < len → W.cell? ⟨b, off + j, none⟩ = some (.int .u64 (ws.getD j 0))) (hG : Tz W) (h0 : J [] W) :
    CallsIn Fence.wide n Tryd.prog 82 #[.func (.yield l) #[] #[], .pointer (some ⟨Bs, 0, none⟩)] W fun e W' => (∃ v, e = .returned v) ∧
      ((∃ ys, ys = els (64 * len) ws ∧ J ys W') ∨ (∃ pre, pre <+: els (64 * len) ws ∧ Jx pre W')) := by
  refine callsIn_of_wp Tryd.func82 rfl trivial ?_ rfl
  simp only [Tryd.ntmps82, List.size_toArray, List.length_cons, List.length_nil, Nat.reduceAdd, Nat.reduceSub, Array.replicate_succ, Array.replicate_zero, List.push_toArray, List.append_toArray, List.nil_append, List.cons_append]
  gi_wp2
  gi_loopw [7] (fun i wr => ∃ k : Nat, k ≤ len ∧ i = .int .i64 k ∧ J (els (64 * k) ws) wr ∧ Ke K W wr)
    (fun i _ => len - (intOf i).toNat)
  case atStart => exact ⟨0, Nat.zero_le _, rfl, h0, Ke.refl _ _⟩
  case round =>
    obtain ⟨k, hk, rfl, hJs, hnx⟩ := hrel
    by_cases hlt : k < len
    · have hcx : wr.cell? ⟨b, off + k, none⟩ = some (.int .u64 (ws.getD k 0)) := (hnx.cell hb (off + k)).trans (hc k hlt)
      have hwd : Wd (ws.getD k 0) := hw.getD k
      obtain ⟨y, hy0⟩ : ∃ y, ws.getD k 0 = y := ⟨_, rfl⟩
      have hword := els_word ws k
      obtain ⟨rest, hrest⟩ := els_grow ws (k + 1) len (by omega)
      rw [hy0] at hcx hwd hword
      clear hy0
      gi_wp2
      gi_loopw [4] (fun v wr2 => ∃ (x : Int) (pre2 : List Int), v = .int .u64 x ∧ Wd x ∧ pre2 ++ bl k x = bl k y ∧ J (els (64 * k) ws ++ pre2) wr2 ∧ Ke K W wr2)
        (fun v _ => (intOf v).toNat)
      case atStart => exact ⟨y, [], rfl, hwd, rfl, by simpa using hJs, hnx⟩
      case round =>
        obtain ⟨x, pre2, rfl, hx, hpre, hJ2, hn2⟩ := hrel
        by_cases h0x : x = 0
        · subst h0x
          rw [bl_zero, List.append_nil] at hpre
          gi_wp2
          go_roundw
          case rel => exact ⟨k + 1, by omega, by simp, by rw [hword, ← hpre]; exact hJ2, hn2⟩
          case measure => simp [intOf]; omega
        · obtain ⟨b1, b2, b3, b4, b5⟩ := bl_cons k hx h0x
          have hne : (x != 0) = true := by simpa using h0x
          have hne2 : (x == 0) = false := by simpa using h0x
          have hT := tz_ke hg hG hn2
          rw [show ((64 * k + Lib.ctz 64 x.toNat : Nat) : Int) = (k : Int) * 64 + (Lib.ctz 64 x.toNat : Int) by omega] at b5
          obtain ⟨fn, tmps, assign, body, hy, hR⟩ := hY _ ((k : Int) * 64 + (Lib.ctz 64 x.toNat : Int)) wr hJ2 (by
            rw [hrest, hword, ← hpre, b5]; simp) ⟨bl k ((x.toNat &&& (x.toNat - 1) : Nat) : Int) ++ rest, by rw [hrest, hword, ← hpre, b5]; simp⟩
          have HB4 := Aside0.mk b4
          have HB5 := Aside0.mk b5
          have HPRE := Aside0.mk hpre
          have HWORD := Aside0.mk hword
          have HREST := Aside0.mk hrest
          clear b4 b5 hpre hword hrest
          gi_wp2_with (refine ⟨trivial, ?_⟩; gi_at_call 80; refine (callsIn_wide.2 (tz_calls hx _ hT)).mono ?_; rintro e w' ⟨rfl, rfl⟩)
          refine hR.mono ?_
          rintro e W3 (⟨rfl, hJ3, hk3⟩ | ⟨rfl, hJx3⟩)
          · gi_wp2
            go_roundw
            case rel => exact ⟨_, pre2 ++ [(k : Int) * 64 + (Lib.ctz 64 x.toNat : Int)], rfl, by rw [HB4.out]; exact b1, by rw [HB4.out, List.append_assoc, List.singleton_append, ← HB5.out]; exact HPRE.out, by rw [← List.append_assoc]; exact hJ3, hn2.trans hk3⟩
            case measure => simp only [intOf]; rw [HB4.out, Int.toNat_natCast]; exact b2
          · gi_wp2
            refine bodyPost_ret (results_none rfl _ _ _) rfl ?_
            exact ⟨⟨_, rfl⟩, .inr ⟨_, ⟨bl k ((x.toNat &&& (x.toNat - 1) : Nat) : Int) ++ rest, by rw [HREST.out, HWORD.out, ← HPRE.out, HB5.out]; simp⟩, hJx3⟩⟩
    · obtain rfl : k = len := by omega
      gi_wp2
      go_end0
      exact ⟨⟨_, rfl⟩, .inl ⟨_, rfl, hJs⟩⟩
set_option maxRecDepth 100000 in
set_option maxHeartbeats 1000000 in
theorem all1_nil_in (n : Nat) (l Bs : Nat) (J : List Int → World → Prop) (W : World) (A : Option Addr) (c : Nat) (hBs : W.cell? ⟨Bs, 0, none⟩ = some (.slice A 0 c)) (h0 : J [] W) :
    CallsIn Fence.wide n Tryd.prog 82 #[.func (.yield l) #[] #[], .pointer (some ⟨Bs, 0, none⟩)] W fun e W' => (∃ v, e = .returned v) ∧ J [] W' := by
  refine callsIn_of_wp Tryd.func82 rfl trivial ?_ rfl
  simp only [Tryd.ntmps82, List.size_toArray, List.length_cons, List.length_nil, Nat.reduceAdd, Nat.reduceSub, Array.replicate_succ, Array.replicate_zero, List.push_toArray, List.append_toArray, List.nil_append, List.cons_append]
  gi_wp2
  gi_loopw [7] (fun i wr => i = .int .i64 0 ∧ J [] wr) (fun _ _ => 0)
  case atStart => exact ⟨rfl, h0⟩
  case round =>
    obtain ⟨rfl, hJs⟩ := hrel
    gi_wp2
    go_end0
    exact ⟨⟨_, rfl⟩, hJs⟩
def Held (K : Nat → Prop) (W : World) (sv : Value) (ws : List Int) : Prop :=
  ((∃ A c, sv = .slice A 0 c) ∧ ws = []) ∨ ∃ b off cap, sv = .slice (some ⟨b, off, none⟩) ws.length cap ∧ K b ∧ b < W.heap.size ∧ ∀ j, j < ws.length → W.cell? ⟨b, off + j, none⟩ = some (.int .u64 (ws.getD j 0))
theorem all_stopsM (K : Nat → Prop) (n : Nat) (hn : 1 ≤ n) (Bs : Nat) (sv : Value) (ws : List Int) (hw : Wds ws) (h64 : ws.length ≤ 64) (w : World) (hBs : Bs < w.heap.size) (hg : K 0)
    (hc : w.cell? ⟨Bs, 0, none⟩ = some sv) (hI : Held K w sv ws) (hG : Tz w) :
    SeqStopsK Fence.wide n Tryd.prog 82 #[.pointer (some ⟨Bs, 0, none⟩)] (fun x : { x : Int // x ∈ els (64 * ws.length) ws } => #[Value.int .i64 x.1]) (Ke K) (fun ys => ys.map (·.1) = els (64 * ws.length) ws) (fun pre => pre.map (·.1) <+: els (64 * ws.length) ws) (els (64 * ws.length) ws).length w := fun l J Jx W hW _ _ hY h0 => by
  have hc' := (hW.cell (p := ⟨Bs, 0, none⟩) hBs).trans hc
  have hG' := tz_at hG hW
  rcases hI with ⟨⟨A, c, rfl⟩, rfl⟩ | ⟨b, off, cap, rfl, hb, hlt, hcs⟩
  · exact (all1_nil_in n l Bs (fun p W => ∃ p', p'.map (·.1) = p ∧ J p' W) W A c hc' ⟨[], rfl, h0⟩).mono fun e W' ⟨he, p', h1, h2⟩ => ⟨he, .inl ⟨p', h1.trans (by simp [els]), h2⟩⟩
  · refine (all1_in K n hn l Bs b off ws.length cap ws hw rfl h64 hb hg (fun p W => ∃ p', p'.map (·.1) = p ∧ J p' W) (fun p W => ∃ p', p'.map (·.1) = p ∧ Jx p' W) ?_ W hc' (fun j hj => (hW.cell (p := ⟨b, off + j, none⟩) hlt).trans (hcs j hj)) hG' ⟨[], rfl, h0⟩).mono ?_
    · rintro pre x W1 ⟨p', rfl, hJ⟩ hlen hpre
      have hx : x ∈ els (64 * ws.length) ws := hpre.subset (by simp)
      rw [List.length_map] at hlen
      obtain ⟨fn, tmps, assign, body, hy, hR⟩ := hY p' ⟨x, hx⟩ W1 hJ hlen
      refine ⟨fn, tmps, assign, body, hy, hR.mono ?_⟩
      rintro e W' (⟨rfl, h1, h2⟩ | ⟨rfl, h1⟩)
      · exact .inl ⟨rfl, ⟨_, by simp, h1⟩, h2⟩
      · exact .inr ⟨rfl, ⟨_, by simp, h1⟩⟩
    · rintro e W' ⟨he, ⟨ys, rfl, p', h1, h2⟩ | ⟨pre, hp, p', h1, h2⟩⟩
      · exact ⟨he, .inl ⟨p', h1, h2⟩⟩
      · exact ⟨he, .inr ⟨p', by subst h1; exact hp, h2⟩⟩
end Go.Proofs.YtjmkhdhffmlhiaaDoor.PAll
end
section
namespace Go.Proofs.YtjmkhdhffmlhiaaDoor.PAll
set_option linter.unusedVariables false
open Go.RowKit Go.Proofs.YtjmkhdhffmlhiaaDoorW.PrintWords Go.Proofs.YtjmkhdhffmlhiaaDoorW.PrintLast Go.Proofs.YtjmkhdhffmlhiaaDoorW.PrintMore
set_option maxHeartbeats 4000000 in
set_option maxRecDepth 100000 in
theorem All_calls (n0 : Int) (A0 : Option Addr) (c0 : Nat) (l0 r : List Int) (w : World) (hr0 : Kd.C (Kd.int .u64) w A0 l0.length l0) (hc0 : l0.length ≤ c0) (h : bitset_own.f n0 l0 = some r) :
    Calls Tryd.prog 39 #[.agg #[.int .i64 n0, .slice A0 l0.length c0]] w fun e w' => ∃ (B : Nat) (A : Option Addr) (c : Nat), e = .returned (.func (.func 82) #[] #[.pointer (some ⟨B, 0, none⟩)]) ∧
      w'.heap[B]? = some (.cells #[.slice A r.length c] 22 (0, 0)) ∧ w.heap.size ≤ B ∧ Kd.R (Kd.int .u64) 87 w' w.heap.size (fun k => k ≠ B) (.slice A r.length c) r ∧ Below w.heap.size w w' := by
  have hu24 := Tryd.underlying24
  have HC := Aside0.mk hr0
  have HO := Aside0.mk h
  clear hr0 h
  go_enter Tryd.func39, Tryd.ntmps39
  go_wp2_with (first
    | ((with_reducible refine gate_callee (f := 81) rfl ?_)
       refine goesL_ (some 5) rfl rfl Tryd.func81 (by kernel_rfl) rfl #[.agg #[.int .i64 n0, .slice A0 l0.length c0]] rfl (by (try simp only [List.map_toArray, List.map_cons, List.map_nil]); first | done | rfl) ?_
       (with_reducible refine (bitset_own.calls n0 _ _ l0 r _ ?s1 ?s2 HO.out).mono ?_)
       (case s1 => repeat (first | exact HC.out | (with_reducible refine Kd.C_alloc ?_ _) | (with_reducible refine Kd.C_drewN ?_ _) | (with_reducible refine Kd.C_drew ?_)))
       (case s2 => exact hc0)
       rintro e w1 ⟨v, rfl, ho, hb⟩
       obtain ⟨A, c, ev⟩ := Kd.R_slice ho
       subst ev
       refine ⟨_, rfl, ?_⟩
       have HR := Aside0.mk ho
       have HB := Aside0.mk hb
       clear ho hb))
  go_ret
  have h1 : Below w.heap.size w (w.alloc (.cells #[.int .i64 n0, .slice A0 l0.length c0] 24)) := below_alloc (Below.refl _ _) _
  have hBw : Below w.heap.size w w1 := below_step h1 HB.out
  have hR := Kd.R_lower HR.out (below_size h1)
  exact ⟨w1.heap.size, A, c, rfl, heap_alloc_new w1 _, hBw.size, Kd.R_alloc (Kd.R_mono (Kd.R_bound hR) (fun k hk => Nat.ne_of_lt hk.2.2.1)) _, below_alloc hBw _⟩
end Go.Proofs.YtjmkhdhffmlhiaaDoor.PAll
end
section
namespace Go.Proofs.YtjmkhdhffmlhiaaDoor.PAll
set_option linter.unusedVariables false
open Go.RowKit Go.Shelf Go.Proofs.YtjmkhdhffmlhiaaDoorW.PrintWords Go.Proofs.YtjmkhdhffmlhiaaDoorW.PrintLast Go.Proofs.YtjmkhdhffmlhiaaDoorW.PrintMore
attribute [local go_sem] Oper.semAt_some
theorem ko_kept {α : Type} {dd : Kd α} {e : TypeId} {ok : Nat → Prop} {v : Value} {xs : List α} {W W' : World} {b : Nat} (h : dd.R e W b ok v xs) (hk : Kept W W' (fun k => some k = v.ownBlock)) : KeepsOthers W W' := ⟨hk.1, fun k o ho hc => by
  refine (hk.2 k (Array.getElem?_eq_some_iff.1 ho).1 (fun e => ?_)).trans ho
  obtain ⟨cells, hh⟩ := Kd.R_typed h k e.symm
  rw [ho] at hh; cases hh; cases hc⟩
end Go.Proofs.YtjmkhdhffmlhiaaDoor.PAll
end
section
namespace Go.Proofs.YtjmkhdhffmlhiaaDoor.PAll
set_option linter.unusedVariables false
open Go.RowKit Go.Shelf Go.Proofs.YtjmkhdhffmlhiaaDoorW.PrintWords Go.Proofs.YtjmkhdhffmlhiaaDoorW.PrintLast Go.Proofs.YtjmkhdhffmlhiaaDoorW.PrintMore
attribute [local go_sem] Oper.semAt_some
end Go.Proofs.YtjmkhdhffmlhiaaDoor.PAll
end
section
namespace Go.Proofs.YtjmkhdhffmlhiaaDoor.PAll
open Go.RowKit Go.Proofs.YtjmkhdhffmlhiaaDoorW.PrintWords Go.Proofs.YtjmkhdhffmlhiaaDoorW.PrintLast Go.Proofs.YtjmkhdhffmlhiaaDoorW.PrintMore
attribute [local go_sem] max2_int min2_int max_two min_two max_three min_three max_four min_four w64_u8 w64_mod256   -- for this text's walks alone
set_option linter.unusedVariables false
set_option linter.unusedSimpArgs false
end Go.Proofs.YtjmkhdhffmlhiaaDoor.PAll
end
section
namespace Go.Proofs.YtjmkhdhffmlhiaaDoor.PAll
open Go.RowKit Go.Proofs.YtjmkhdhffmlhiaaDoorW.PrintWords Go.Proofs.YtjmkhdhffmlhiaaDoorW.PrintLast Go.Proofs.YtjmkhdhffmlhiaaDoorW.PrintMore
attribute [local go_sem] max2_int min2_int max_two min_two max_three min_three max_four min_four w64_u8 w64_mod256   -- for this text's walks alone
set_option linter.unusedVariables false
set_option linter.unusedSimpArgs false
end Go.Proofs.YtjmkhdhffmlhiaaDoor.PAll
end
section
namespace Go.Proofs.YtjmkhdhffmlhiaaDoor.PAll
open Go.RowKit Go.Proofs.YtjmkhdhffmlhiaaDoorW.PrintWords Go.Proofs.YtjmkhdhffmlhiaaDoorW.PrintLast Go.Proofs.YtjmkhdhffmlhiaaDoorW.PrintMore
attribute [local go_sem] max2_int min2_int max_two min_two max_three min_three max_four min_four w64_u8 w64_mod256   -- for this text's walks alone
set_option linter.unusedVariables false
set_option linter.unusedSimpArgs false
end Go.Proofs.YtjmkhdhffmlhiaaDoor.PAll
end
section
namespace Go.Proofs.YtjmkhdhffmlhiaaDoor.PAll
open Go.RowKit Go.Proofs.YtjmkhdhffmlhiaaDoorW.PrintWords Go.Proofs.YtjmkhdhffmlhiaaDoorW.PrintLast Go.Proofs.YtjmkhdhffmlhiaaDoorW.PrintMore
attribute [local go_sem] max2_int min2_int max_two min_two max_three min_three max_four min_four w64_u8 w64_mod256   -- for this text's walks alone
set_option linter.unusedVariables false
set_option linter.unusedSimpArgs false
end Go.Proofs.YtjmkhdhffmlhiaaDoor.PAll
end
section
namespace Go.Proofs.YtjmkhdhffmlhiaaDoor.PAll
set_option linter.unusedVariables false
open Go.RowKit Go.Proofs.YtjmkhdhffmlhiaaDoorW.PrintWords Go.Proofs.YtjmkhdhffmlhiaaDoorW.PrintMore
theorem mem_els {N : Nat} {ws : List Int} {x : Int} : x ∈ els N ws ↔ ∃ j : Nat, j < N ∧ hb ws j = true ∧ x = (j : Int) := by
  unfold els
  simp only [List.mem_map, List.mem_filter, List.mem_range]
  constructor
  · rintro ⟨j, ⟨h1, h2⟩, rfl⟩; exact ⟨j, h1, h2, rfl⟩
  · rintro ⟨j, h1, h2, rfl⟩; exact ⟨j, ⟨h1, h2⟩, rfl⟩
def shP (ws : List Int) (d : Int) (e : Nat) : Bool := decide (0 ≤ (e : Int) - d) && hb ws ((e : Int) - d).toNat
def ShiftSays (n : Int) (ws : List Int) (d : Int) (r : Int × List Int × Int) : Prop :=
  (¬ MayP n ws ∧ r = (0, [], 61)) ∨ (MayP n ws ∧ ∃ vs, Is n.toNat (shP ws d) vs ∧ r = (n, vs, 0))
theorem ShiftSays.eq {n : Int} {ws : List Int} {d : Int} {r q : Int × List Int × Int} (h : ShiftSays n ws d r) (k : ShiftSays n ws d q) : r = q := by
  rcases h with ⟨h1, rfl⟩ | ⟨h1, vs, h2, rfl⟩ <;> rcases k with ⟨k1, rfl⟩ | ⟨k1, us, k2, rfl⟩
  · rfl
  · exact absurd k1 h1
  · exact absurd h1 k1
  · rw [h2.eq k2 (fun _ _ => rfl)]
def MvP (ws tw : List Int) (i : Nat) (e : Nat) : Prop := ∃ a, i ≤ a ∧ a < tw.length ∧ hb ws a = true ∧ tw.getD a 0 = (e : Int)
noncomputable def mvp (ws tw : List Int) (i : Nat) (e : Nat) : Bool := @decide (MvP ws tw i e) (Classical.propDecidable _)
def MoveSays (n : Int) (ws : List Int) (size : Int) (tw : List Int) (r : Int × List Int × Int) : Prop :=
  (¬ MayP n ws ∧ r = (0, [], 61)) ∨ (MayP n ws ∧ (((size < 0 ∨ 4096 < size) ∧ r = (0, [], 60)) ∨ (0 ≤ size ∧ size ≤ 4096 ∧ (((tw.length : Int) ≠ n ∧ r = (0, [], 1)) ∨ ((tw.length : Int) = n ∧
    (((∃ x ∈ tw, x < -1 ∨ size ≤ x) ∧ r = (0, [], 62)) ∨ ((∀ x ∈ tw, -1 ≤ x ∧ x < size) ∧ ∃ vs, Is size.toNat (mvp ws tw 0) vs ∧ r = (size, vs, 0))))))))
theorem MoveSays.eq {n : Int} {ws : List Int} {size : Int} {tw : List Int} {r q : Int × List Int × Int} (h : MoveSays n ws size tw r) (k : MoveSays n ws size tw q) : r = q := by
  rcases h with ⟨h1, rfl⟩ | ⟨h1, ⟨h2, rfl⟩ | ⟨h2, h3, ⟨h4, rfl⟩ | ⟨h4, ⟨⟨x, h5, h6⟩, rfl⟩ | ⟨h5, vs, h6, rfl⟩⟩⟩⟩ <;> rcases k with ⟨k1, rfl⟩ | ⟨k1, ⟨k2, rfl⟩ | ⟨k2, k3, ⟨k4, rfl⟩ | ⟨k4, ⟨⟨y, k5, k6⟩, rfl⟩ | ⟨k5, us, k6, rfl⟩⟩⟩⟩
  all_goals first | rfl | (exact absurd k1 h1) | (exact absurd h1 k1) | omega | (exact absurd k4 h4) | (exact absurd h4 k4) | skip
  · have := k5 x h5; omega
  · have := h5 y k5; omega
  · rw [h6.eq k6 (fun _ _ => rfl)]
end Go.Proofs.YtjmkhdhffmlhiaaDoor.PAll
end
section
namespace Go.Proofs.YtjmkhdhffmlhiaaDoor.PAll
open Go.RowKit Go.Proofs.YtjmkhdhffmlhiaaDoorW.PrintWords Go.Proofs.YtjmkhdhffmlhiaaDoorW.PrintLast Go.Proofs.YtjmkhdhffmlhiaaDoorW.PrintMore
attribute [local go_sem] max2_int min2_int max_two min_two max_three min_three max_four min_four w64_u8 w64_mod256   -- for this text's walks alone
set_option linter.unusedVariables false
set_option linter.unusedSimpArgs false
def bitset_blanks.l0 : Nat → Int → Int → Int → Int → List (S24) → Option (Int × (List (S24)))
  | 0, _, _, _, _, _ => none
  | k + 1, x0, x8, x9, x103000, x103001 => if x9 < x8 then ((bitset_blank.f x0).bind fun bt103 => (if x103001.length < 4398046511104 then (bitset_blanks.l0 k x0 x8 (wrap64 (x9 + 1)) x103000 (x103001 ++ [(⟨bt103.1, bt103.2⟩ : S24)])) else (none))) else (some (x103000, x103001))
def bitset_blanks.f (k : Nat) (a0 : Int) (a1 : Int) : Option (Int × (List (S24))) := bitset_blanks.l0 k a0 a1 0 a0 ([] : List (S24))
theorem bitset_blanks.mono_l : ∀ k, (∀ y0 y1 y2 y3 y4, LeO (bitset_blanks.l0 k y0 y1 y2 y3 y4) (bitset_blanks.l0 (k + 1) y0 y1 y2 y3 y4))
  | 0 => fun _ _ _ _ _ r h => by simp [bitset_blanks.l0] at h
  | k + 1 => by
    have ih0 := bitset_blanks.mono_l k
    · intro y0 y1 y2 y3 y4
      unfold bitset_blanks.l0
      repeat' first
      | (with_reducible exact ih0 _ _ _ _ _)
      | (with_reducible exact LeO.refl _)
      | (with_reducible exact LeO.none _)
      | (with_reducible refine LeO.ite ?_ ?_)
      | (with_reducible refine LeO.bind ?_ (fun _ => ?_))
      | exact ih0 _ _ _ _ _
      | exact LeO.none _
      | refine LeO.ite ?_ ?_
      | refine LeO.bind ?_ (fun _ => ?_)
theorem bitset_blanks.mono : ∀ a0 a1 k, LeO (bitset_blanks.f k a0 a1) (bitset_blanks.f (k + 1) a0 a1) := by
  intro a0 a1 k
  have ih0 := bitset_blanks.mono_l k
  unfold bitset_blanks.f
  repeat' first
      | (with_reducible exact ih0 _ _ _ _ _)
      | (with_reducible exact LeO.refl _)
      | (with_reducible exact LeO.none _)
      | (with_reducible refine LeO.ite ?_ ?_)
      | (with_reducible refine LeO.bind ?_ (fun _ => ?_))
      | exact ih0 _ _ _ _ _
      | exact LeO.none _
      | refine LeO.ite ?_ ?_
      | refine LeO.bind ?_ (fun _ => ?_)
def bitset_blanks.T4 : Bool × List (List Nat × List Nat) := (true, [([], []), ([0], [0]), ([], []), ([2], [2]), ([3], [3]), ([1, 4, 3], [1, 4]), ([0, 1, 2, 3, 4, 5], []), ([6, 5, 5, 0, 1, 2, 3, 4, 5], [5, 6])])
def bitset_blanks.B4 : List Nat := [0, 1, 0, 4, 12, 31, 63, 127]
theorem bitset_blanks.tab4 : rtab .any (opsOf Tryd.f86 4) = bitset_blanks.T4 := by kernel_rfl
theorem bitset_blanks.bits4 : waitsOk bitset_blanks.T4.2 bitset_blanks.B4 = true := by kernel_rfl
set_option maxHeartbeats 8000000 in
set_option maxRecDepth 100000 in
theorem bitset_blanks.calls (k : Nat) (a0 : Int) (a1 : Int) (r1 : Int) (r2 : List (S24)) (w : World) (h : bitset_blanks.f k a0 a1 = some (r1, r2)) :
    Calls Tryd.prog 86 #[.int .i64 a0, .int .i64 a1] w fun e w' => ∃ v1_ : Value, e = .returned (.agg #[.int .i64 r1, v1_]) ∧ Kd.S k24 24 w' w.heap.size (fun _ => True) v1_ r2 ∧ Below w.heap.size w w' := by
  have hu56 := Tryd.underlying56
  have HB := Aside0.mk (Below.refl w.heap.size w)
  have H : (bitset_blanks.l0 k a0 a1 0 a0 ([] : List (S24))) = some (r1, r2) := h
  clear h
  have H' := Aside0.mk H
  clear H
  go_enter Tryd.func86, Tryd.ntmps86
  go_wp2_with (first | ((with_reducible refine gate_dst (N := 4) rfl ?_); refine box_event ?hg (N := 4) ?hd (cs := #[.int .i64 0, .slice none 0 0]) (t := 56) ?hr ?_; (case hd => rfl); (case hg => rfl); (case hr => first | (go_simp; done) | (go_simp; rfl)); intro gb101 hg w3 hbox hb; have n0_ := Aside0.mk (below_step (by repeat (first | (with_reducible first | exact HB.out | apply below_alloc | apply pw_below_drewN | apply below_drew1) | exact HB.out)) hb); have n1_ := Aside0.mk (hbox); have n2_ := Aside0.mk ((by rw [hg]; exact (below_size (by repeat (first | (with_reducible first | exact HB.out | apply below_alloc | apply pw_below_drewN | apply below_drew1) | exact HB.out))) : w.heap.size ≤ gb101)); have n3_ := Aside0.mk ((by rw [hg]; exact (below_size (by repeat (first | (with_reducible first | exact HB.out | apply below_alloc | apply pw_below_drewN | apply below_drew1) | exact HB.out))) : w.heap.size ≤ gb101)); clear HB; have HB := n0_; have BK101 := n1_; have GW101 := n2_; have GE101 := n3_; clear n0_ n1_ n2_ n3_; clear hb hbox hg) | ((with_reducible refine gate_dst (N := 5) rfl ?_); refine box_event ?hg (N := 5) ?hd (cs := #[.int .i64 0, .slice none 0 0]) (t := 56) ?hr ?_; (case hd => rfl); (case hg => rfl); (case hr => first | (go_simp; done) | (go_simp; rfl)); intro gb102 hg w4 hbox hb; have n0_ := Aside0.mk (blk_below (g := gb101) (o := .cells #[.int .i64 0, .slice none 0 0] 56 (0, 0)) (by (with_reducible repeat (first | refine blk_drewN ?_ _ | refine blk_drew ?_ | refine blk_alloc ?_ _)); exact BK101.out) hb); have n1_ := Aside0.mk (below_step (by repeat (first | (with_reducible first | exact HB.out | apply below_alloc | apply pw_below_drewN | apply below_drew1 | refine below_set ?_ GE101.out) | exact HB.out)) hb); have n2_ := Aside0.mk (hbox); have n3_ := Aside0.mk ((by rw [hg]; exact (below_size (by repeat (first | (with_reducible first | exact HB.out | apply below_alloc | apply pw_below_drewN | apply below_drew1 | refine below_set ?_ GE101.out) | exact HB.out))) : w.heap.size ≤ gb102)); have n4_ := Aside0.mk ((by rw [hg]; exact (below_size (by repeat (first | (with_reducible first | exact HB.out | apply below_alloc | apply pw_below_drewN | apply below_drew1 | refine below_set ?_ GE101.out) | exact HB.out))) : w.heap.size ≤ gb102)); have n5_ := Aside0.mk ((by rw [hg]; exact Nat.ne_of_lt (blk_lt (g := gb101) (o := .cells #[.int .i64 0, .slice none 0 0] 56 (0, 0)) (by (with_reducible repeat (first | refine blk_drewN ?_ _ | refine blk_drew ?_ | refine blk_alloc ?_ _)); exact BK101.out)) : gb101 ≠ gb102)); have n6_ := Aside0.mk ((by rw [hg]; exact Nat.ne_of_gt (blk_lt (g := gb101) (o := .cells #[.int .i64 0, .slice none 0 0] 56 (0, 0)) (by (with_reducible repeat (first | refine blk_drewN ?_ _ | refine blk_drew ?_ | refine blk_alloc ?_ _)); exact BK101.out)) : gb102 ≠ gb101)); clear BK101; clear HB; have BK101 := n0_; have HB := n1_; have BK102 := n2_; have GW102 := n3_; have GE102 := n4_; have NB101_102 := n5_; have NB102_101 := n6_; clear n0_ n1_ n2_ n3_ n4_ n5_ n6_; clear hb hbox hg; have hnb5 := NB102_101.out; have hnc5 := NB101_102.out; have hcz6_0 : w4.cell? ⟨gb102, 0, none⟩ = some (.int .i64 0) := (blk_cell BK102.out 0).trans rfl; have hcz6_1 : w4.cell? ⟨gb102, 1, none⟩ = some (.slice none 0 0) := (blk_cell BK102.out 1).trans rfl; have hfz6_0 := blk_frozen BK102.out 0; have hfz6_1 := blk_frozen BK102.out 1))
  go_loopg [9] k (fun kq v9 w' => ∃ (x9_1 : Int) (x103001_1 : List (S24)) (u103001 : Value), v9 = .int .i64 x9_1 ∧ Aside0 (bitset_blanks.l0 kq a0 a1 x9_1 a0 x103001_1 = some (r1, r2)) ∧ Aside0 (kq ≤ k) ∧ Aside0 (Kd.S k24 24 w' w.heap.size (fun _ => True) u103001 x103001_1) ∧ Aside0 (w'.heap[gb101]? = some (.cells #[.int .i64 0, (.slice none 0 0)] 56 (0, 0))) ∧ Aside0 (w'.heap[gb102]? = some (.cells #[.int .i64 a0, u103001] 56 (0, 0))) ∧ Aside0 (Below w.heap.size w w'))
  case atStart => exact ⟨(0), (([] : List (S24))), (.slice none 0 0), (by first | rfl | (simp; done) | (simp [*]; done)), H', ⟨Nat.le_refl _⟩, ⟨by first | exact Kd.S_nil _ _ _ _ _ | exact Kd.N_nil _ _ _ _ _ | exact Kd.V_nil _ _ _ _ _ | exact Kd.Q_nil _ _ _ _ _ | exact Kd.R_nil _ _ _ _ _⟩, ⟨by (with_reducible repeat (first | refine blk_drewN ?_ _ | refine blk_drew ?_ | refine blk_alloc ?_ _)); refine blk_far ?_ NB101_102.out _; (with_reducible repeat (first | refine blk_drewN ?_ _ | refine blk_drew ?_ | refine blk_alloc ?_ _)); refine blk_far ?_ NB101_102.out _; (with_reducible repeat (first | refine blk_drewN ?_ _ | refine blk_drew ?_ | refine blk_alloc ?_ _)); exact BK101.out⟩, ⟨by (with_reducible repeat (first | refine blk_drewN ?_ _ | refine blk_drew ?_ | refine blk_alloc ?_ _)); refine blk_put (cs := #[.int .i64 a0, .slice none 0 0]) ?_ 1 _ rfl; (with_reducible repeat (first | refine blk_drewN ?_ _ | refine blk_drew ?_ | refine blk_alloc ?_ _)); refine blk_put (cs := #[.int .i64 0, .slice none 0 0]) ?_ 0 _ rfl; (with_reducible repeat (first | refine blk_drewN ?_ _ | refine blk_drew ?_ | refine blk_alloc ?_ _)); exact BK102.out⟩, ⟨by repeat (first | (with_reducible first | exact HB.out | apply below_alloc | apply pw_below_drewN | apply below_drew1 | refine below_set ?_ GE101.out | refine below_set ?_ GE102.out) | exact HB.out)⟩⟩
  case round =>
    clear H'
    try clear p2
    try clear c5
    try clear hcz6_0
    try clear hcz6_1
    try clear hfz6_0
    try clear hfz6_1
    obtain ⟨x9_1, x103001_1, u103001, rfl, HA, HK1, HO_103001, BK101, BK102, HB⟩ := hrel
    cases gk with
    | zero => exact absurd HA.out (by simp [bitset_blanks.l0])
    | succ k1 =>
      have H := HA.out
      clear HA
      simp only [bitset_blanks.l0] at H
      by_cases c7 : x9_1 < a1
      · rw [if_pos c7] at H
        have c7b0 : decide (x9_1 < a1) = true := decide_eq_true c7
        clear c7
        replace H := Option.bind_eq_some_iff.mp H
        obtain ⟨⟨t103, t104⟩, A80, H⟩ := H
        replace H : (if x103001_1.length < 4398046511104 then (bitset_blanks.l0 k1 a0 a1 (wrap64 (x9_1 + 1)) a0 (x103001_1 ++ [(⟨t103, t104⟩ : S24)])) else (none)) = some (r1, r2) := H
        have A8 := Aside0.mk A80
        clear A80
        by_cases c9 : x103001_1.length < 4398046511104
        · rw [if_pos c9] at H
          have LMc9 := Aside0.mk c9
          clear c9
          obtain ⟨y107, hy107⟩ : ∃ y_ : List (S24), y_ = (x103001_1 ++ [(⟨t103, t104⟩ : S24)]) := ⟨_, rfl⟩
          replace H : (bitset_blanks.l0 k1 a0 a1 (wrap64 (x9_1 + 1)) a0 y107) = some (r1, r2) := by first | (rw [hy107]; with_reducible exact H) | (have H2_ := (Option.bind_some _ _).symm.trans H; rw [hy107]; with_reducible exact H2_) | (have H2_ := (Option.bind_some _ _).symm.trans H; with_reducible exact H2_) | with_reducible exact H | (rw [hy107]; exact H) | exact H
          have Ny107 := Aside0.mk hy107
          clear hy107
          have H' := Aside0.mk H
          clear H
          try go_wp2
          have n0_ := Aside0.mk (Kd.S_drew HO_103001.out)
          have n1_ := Aside0.mk (blk_drew BK101.out)
          have n2_ := Aside0.mk (blk_drew BK102.out)
          have n3_ := Aside0.mk (below_drew1 HB.out)
          clear HO_103001
          clear BK101
          clear BK102
          clear HB
          have HO_103001 := n0_
          have BK101 := n1_
          have BK102 := n2_
          have HB := n3_
          clear n0_ n1_ n2_ n3_
          refine start_ (n := 8) (S := fun w' => w'.cell? ⟨gb102, 0, none⟩ = some (.int .i64 a0) ∧ w'.cell? ⟨gb102, 1, none⟩ = some (u103001)) (ds := [7]) #[false, false, false, false, false, false, false, false] (by kernel_rfl) rfl rfl ⟨(blk_cell BK102.out 0).trans rfl, (blk_cell BK102.out 1).trans rfl⟩ (fun hHeld => ?_); refine with_tabW bitset_blanks.tab4 bitset_blanks.bits4 (fun HT_ HW_ => ?_)
          generalize wr.drew = w10 at HO_103001 BK101 BK102 HB hHeld ⊢
          refine pure_ (i := 0) (N := some 11) (v := ?_) (a' := ?_) #[true, false, false, false, false, false, false, false] rfl rfl (any_of HT_.out (by kernel_rfl)) (fun _ _ _ h => h) (Or.inl ⟨by rfl, ?_⟩) ?_ ?_
          rotate_left
          · intro w'
            go_simp
            with_reducible rfl
          rotate_left
          · simp only [Act.put, List.setIfInBounds_toArray, List.set_cons_zero, List.set_cons_succ, i64_w, i32_w]
            rfl
          refine pure_ (i := 2) (N := some 13) (v := ?_) (a' := ?_) #[true, false, true, false, false, false, false, false] rfl rfl (any_of HT_.out (by kernel_rfl)) (fun _ _ _ h => h) (Or.inl ⟨by rfl, ?_⟩) ?_ ?_
          rotate_left
          · intro w'
            go_simp
            with_reducible rfl
          rotate_left
          · simp only [Act.put, List.setIfInBounds_toArray, List.set_cons_zero, List.set_cons_succ, i64_w, i32_w]
            rfl
          refine take_ (i := 1) (N := some 12) (v := ?_) (a' := ?_) #[true, true, true, false, false, false, false, false] rfl rfl (take_ofW HT_.out HW_.out (by kernel_rfl)) (fun _ _ _ h => h) (Or.inl ⟨by rfl, ?_⟩) hHeld ?_ ?_
          rotate_left
          · rintro w' ⟨s0, s1⟩
            go_simp
            with_reducible rfl
          rotate_left
          · simp only [Act.put, List.setIfInBounds_toArray, List.set_cons_zero, List.set_cons_succ, i64_w, i32_w]
            rfl
          refine one_ (i := 3) (N := some 14) #[true, true, true, true, false, false, false, false] rfl rfl (one_of HT_.out (by kernel_rfl)) (by decide) (fun K hK => ?_)
          refine goes_ Tryd.func70 (by kernel_rfl) rfl #[.int .i64 a0] (by rfl) rfl rfl (by (try simp only [List.map_toArray, List.map_cons, List.map_nil]); first | done | rfl | (simp only [List.length_drop, List.length_take]; rfl)) ?_
          with_reducible refine (bitset_blank.calls a0 t103 t104 _ A8.out).mono ?_
          rintro e w11 ⟨v105, rfl, ho0, hb⟩
          refine ⟨_, rfl, ?_⟩
          have n0_ := Aside0.mk (Kd.S_elder' (by (with_reducible repeat (first | apply Kd.S_alloc | apply Kd.S_drewN | apply Kd.S_drew)); exact HO_103001.out) (Kd.R_base ho0) hb)
          have n1_ := Aside0.mk (Kd.R_lower ho0 (below_size (by repeat (first | (with_reducible first | exact HB.out | apply below_alloc | apply pw_below_drewN | apply below_drew1 | refine below_set ?_ GE101.out | refine below_set ?_ GE102.out) | exact HB.out))))
          have n2_ := Aside0.mk (blk_below (g := gb101) (o := .cells #[.int .i64 0, .slice none 0 0] 56 (0, 0)) (by (with_reducible repeat (first | refine blk_drewN ?_ _ | refine blk_drew ?_ | refine blk_alloc ?_ _)); exact BK101.out) hb)
          have n3_ := Aside0.mk (blk_below (g := gb102) (o := .cells #[.int .i64 a0, u103001] 56 (0, 0)) (by (with_reducible repeat (first | refine blk_drewN ?_ _ | refine blk_drew ?_ | refine blk_alloc ?_ _)); exact BK102.out) hb)
          have n4_ := Aside0.mk (below_step (by repeat (first | (with_reducible first | exact HB.out | apply below_alloc | apply pw_below_drewN | apply below_drew1 | refine below_set ?_ GE101.out | refine below_set ?_ GE102.out) | exact HB.out)) hb)
          clear HO_103001
          clear BK101
          clear BK102
          clear HB
          have HO_103001 := n0_
          have HO106 := n1_
          have BK101 := n2_
          have BK102 := n3_
          have HB := n4_
          clear n0_ n1_ n2_ n3_ n4_
          (try clear hb)
          (try clear hb2)
          (try clear hk)
          (try clear hi)
          (try clear ho0)
          obtain ⟨Ao13, co13, eo13⟩ := Kd.R_slice HO106.out
          (first | subst eo13 | (injection eo13 with f1_ f2_ f3_; have f4_ := f1_.symm; have f5_ := f3_.symm; clear f1_ f2_ f3_; subst f4_; subst f5_))
          refine hK.out _ _ ⟨(blk_cell BK102.out 0).trans rfl, (blk_cell BK102.out 1).trans rfl⟩ (fun hHeld => ?_)
          clear hK K
          refine norm_ (a' := ?_) ?_ ?_
          rotate_left
          · show Act.put _ (some 14) _ = _
            simp only [Act.put, List.setIfInBounds_toArray, List.set_cons_zero, List.set_cons_succ, i64_w, i32_w]
            rfl
          refine one_ (i := 4) (N := some 15) #[true, true, true, true, true, false, false, false] rfl rfl (one_of HT_.out (by kernel_rfl)) (by decide) (fun K hK => ?_)
          refine value_ (w1 := ?_) (v := ?_) (by rfl) rfl ?_ ?_
          rotate_left 2
          · go_simp
            constructor
            · rfl
            · rfl
          refine hK.out _ _ ⟨(blk_cell (blk_alloc BK102.out _) 0).trans rfl, (blk_cell (blk_alloc BK102.out _) 1).trans rfl⟩ (fun hHeld => ?_)
          clear hK K
          refine norm_ (a' := ?_) ?_ ?_
          rotate_left
          · show Act.put _ (some 15) _ = _
            simp only [Act.put, List.setIfInBounds_toArray, List.set_cons_zero, List.set_cons_succ, i64_w, i32_w]
            rfl
          refine one_ (i := 5) (N := some 16) #[true, true, true, true, true, true, false, false] rfl rfl (one_of HT_.out (by kernel_rfl)) (by decide) (fun K hK => ?_)
          refine Kd.S_append_step k24 (w0 := w) w.heap.size (by rfl) (.tmp 12) (.tmp 15) 54 24 (.agg #[(.int .i64 0), (.slice none 0 0)]) 32 rfl Tryd.underlying54 info24 rfl (by decide) (by omega) u103001 x103001_1 (⟨t103, t104⟩ : S24) [.int .i64 t103, .slice Ao13 t104.length co13] (fun _ => True) (fun k_ => some k_ = (.slice Ao13 t104.length co13 : Value).ownBlock) rfl rfl ?aP (fun k_ hk_ => ((Kd.R_mono (ok' := fun k_ => ((fun _ => True)) k_ ∧ some k_ ≠ (u103001 : Value).ownBlock) (Kd.R_apart' (HO106.out) (Kd.S_typed HO_103001.out) (by decide)) (fun k_ hk => ⟨trivial, hk.2⟩))).1 k_ hk_.symm) ?aF ?aO ?aB ?aS ?aL ?_
          (case aP => exact k24_mkM _ _ _ (⟨t103, t104⟩ : S24) (Kd.R_mono (Kd.R_tight rfl (Kd.R_mono (ok' := fun k_ => ((fun _ => True)) k_ ∧ some k_ ≠ (u103001 : Value).ownBlock) (Kd.R_apart' (HO106.out) (Kd.S_typed HO_103001.out) (by decide)) (fun k_ hk => ⟨trivial, hk.2⟩))) (fun _ h_ => h_)))
          (case aB => exact (by repeat (first | (with_reducible first | exact HB.out | apply below_alloc | apply pw_below_drewN | apply below_drew1 | refine below_set ?_ GE101.out | refine below_set ?_ GE102.out) | exact HB.out)))
          (case aF => exact (fun _ _ => trivial))
          (case aO => exact (by (with_reducible repeat (first | apply Kd.S_alloc | apply Kd.S_drewN | apply Kd.S_drew)); exact Kd.S_mono HO_103001.out (fun k_ hk => ⟨trivial, fun e_ => hk.2 e_⟩)))
          (case aS => exact (below_size (by repeat (first | (with_reducible first | exact HB.out | apply below_alloc | apply pw_below_drewN | apply below_drew1 | refine below_set ?_ GE101.out | refine below_set ?_ GE102.out) | exact HB.out))))
          (case aL => have := LMc9.out; omega)
          intro v108 w12 ho hb hg hat
          rw [← Ny107.out] at ho
          have n0_ := Aside0.mk (blk_grown (g := gb101) (o := .cells #[.int .i64 0, .slice none 0 0] 56 (0, 0)) (by (with_reducible repeat (first | refine blk_drewN ?_ _ | refine blk_drew ?_ | refine blk_alloc ?_ _)); exact BK101.out) hg (Kd.S_ne HO_103001.out BK101.out (by decide)))
          have n1_ := Aside0.mk (blk_grown (g := gb102) (o := .cells #[.int .i64 a0, u103001] 56 (0, 0)) (by (with_reducible repeat (first | refine blk_drewN ?_ _ | refine blk_drew ?_ | refine blk_alloc ?_ _)); exact BK102.out) hg (Kd.S_ne HO_103001.out BK102.out (by decide)))
          have n2_ := Aside0.mk (hb)
          have n3_ := Aside0.mk (ho)
          clear BK101
          clear BK102
          clear HB
          clear HO_103001
          clear HO106
          have BK101 := n0_
          have BK102 := n1_
          have HB := n2_
          have HO109 := n3_
          clear n0_ n1_ n2_ n3_
          clear ho hb hg hat
          obtain ⟨Ao14, co14, eo14⟩ := Kd.S_slice HO109.out
          (first | subst eo14 | (injection eo14 with f1_ f2_ f3_; have f4_ := f1_.symm; have f5_ := f3_.symm; clear f1_ f2_ f3_; subst f4_; subst f5_))
          refine hK.out _ _ ⟨(blk_cell BK102.out 0).trans rfl, (blk_cell BK102.out 1).trans rfl⟩ (fun hHeld => ?_)
          clear hK K
          refine norm_ (a' := ?_) ?_ ?_
          rotate_left
          · show Act.put _ (some 16) _ = _
            simp only [Act.put, List.setIfInBounds_toArray, List.set_cons_zero, List.set_cons_succ, i64_w, i32_w]
            rfl
          refine pure_ (i := 6) (N := some 17) (v := ?_) (a' := ?_) #[true, true, true, true, true, true, true, false] rfl rfl (any_of HT_.out (by kernel_rfl)) (fun _ _ _ h => h) (Or.inl ⟨by rfl, ?_⟩) ?_ ?_
          rotate_left
          · intro w'
            go_simp
            with_reducible rfl
          rotate_left
          · simp only [Act.put, List.setIfInBounds_toArray, List.set_cons_zero, List.set_cons_succ, i64_w, i32_w]
            rfl
          refine last_ (i := 7) (N := none) #[true, true, true, true, true, true, true, true] rfl rfl (one_of HT_.out (by kernel_rfl)) (by decide) (fun K hK => ?_)
          have hs15 : w12.cell? ⟨gb102, 1, none⟩ = some (u103001) := (blk_cell BK102.out 1).trans rfl
          have hfs15 := blk_frozen BK102.out 1
          have hns15_0 := NB101_102.out
          have hms15_0 := NB102_101.out
          refine skip_ (w1 := ?_) (by rfl) rfl ?_ ?_
          rotate_left
          · go_simp
            rfl
          refine hK.out _ _ ?_
          clear hK K
          refine done_ (done_of HT_.out (by kernel_rfl)) ?_
          try go_wp2
          go_roundg k1
          case measure => have := HK1.out; omega
          case rel => exact ⟨(wrap64 (x9_1 + 1)), (y107), (.slice Ao14 y107.length co14), (by first | rfl | (simp; done) | (simp [*]; done)), H', ⟨by have := HK1.out; omega⟩, ⟨by (with_reducible repeat (first | apply Kd.S_alloc | apply Kd.S_drewN | apply Kd.S_drew)); exact Kd.S_mono (Kd.S_far (p := ⟨gb102, 1, none⟩) (Kd.S_types HO109.out BK102.out (by decide)) (fun _ hk => hk.2) (.slice Ao14 y107.length co14)) (fun _ hk => trivial)⟩, ⟨by (with_reducible repeat (first | refine blk_drewN ?_ _ | refine blk_drew ?_ | refine blk_alloc ?_ _)); refine blk_far ?_ NB101_102.out _; (with_reducible repeat (first | refine blk_drewN ?_ _ | refine blk_drew ?_ | refine blk_alloc ?_ _)); exact BK101.out⟩, ⟨by (with_reducible repeat (first | refine blk_drewN ?_ _ | refine blk_drew ?_ | refine blk_alloc ?_ _)); refine blk_put (cs := #[.int .i64 a0, u103001]) ?_ 1 _ rfl; (with_reducible repeat (first | refine blk_drewN ?_ _ | refine blk_drew ?_ | refine blk_alloc ?_ _)); exact BK102.out⟩, ⟨by repeat (first | (with_reducible first | exact HB.out | apply below_alloc | apply pw_below_drewN | apply below_drew1 | refine below_set ?_ GE101.out | refine below_set ?_ GE102.out) | exact HB.out)⟩⟩
        · rw [if_neg c9] at H
          exact absurd H (by simp)
      · rw [if_neg c7] at H
        have c7b0 : decide (x9_1 < a1) = false := decide_eq_false c7
        clear c7
        simp only [Option.some.injEq, Prod.mk.injEq] at H
        obtain ⟨rfl, rfl⟩ := H
        have hnb16 := NB102_101.out
        have hnc16 := NB101_102.out
        have hcz17_0 : wr.cell? ⟨gb102, 0, none⟩ = some (.int .i64 a0) := (blk_cell BK102.out 0).trans rfl
        have hcz17_1 : wr.cell? ⟨gb102, 1, none⟩ = some (u103001) := (blk_cell BK102.out 1).trans rfl
        have hfz17_0 := blk_frozen BK102.out 0
        have hfz17_1 := blk_frozen BK102.out 1
        have hcz18_0 : wr.cell? ⟨gb101, 0, none⟩ = some (.int .i64 0) := (blk_cell BK101.out 0).trans rfl
        have hcz18_1 : wr.cell? ⟨gb101, 1, none⟩ = some (.slice none 0 0) := (blk_cell BK101.out 1).trans rfl
        have hfz18_0 := blk_frozen BK101.out 0
        have hfz18_1 := blk_frozen BK101.out 1
        obtain ⟨Ao19, co19, eo19⟩ := Kd.S_slice HO_103001.out
        subst eo19
        go_wp2
        refine bodyPost_ret (results_cell_row rfl _ _ gb101 56 #[.int .i64 a0, .slice Ao19 x103001_1.length co19] (0, 0) _ rfl (by (with_reducible repeat (first | refine blk_drewN ?_ _ | refine blk_drew ?_ | refine blk_alloc ?_ _)); refine blk_put (cs := #[.int .i64 a0, .slice none 0 0]) ?_ 1 _ rfl; (with_reducible repeat (first | refine blk_drewN ?_ _ | refine blk_drew ?_ | refine blk_alloc ?_ _)); refine blk_put (cs := #[.int .i64 0, .slice none 0 0]) ?_ 0 _ rfl; (with_reducible repeat (first | refine blk_drewN ?_ _ | refine blk_drew ?_ | refine blk_alloc ?_ _)); exact BK101.out) Tryd.underlying56 rfl (by kernel_rfl)) rfl ?_
        exact ⟨_, by first | rfl | (simp [errW_none, errW_some] <;> rfl) | (simp [*, errW_none, errW_some] <;> rfl), by (with_reducible repeat (first | apply Kd.S_alloc | apply Kd.S_drewN | apply Kd.S_drew)); exact Kd.S_mono (Kd.S_far (p := ⟨gb101, 1, none⟩) (Kd.S_far (p := ⟨gb101, 0, none⟩) (Kd.S_types HO_103001.out BK101.out (by decide)) (fun _ hk => hk.2) (.int .i64 a0)) (fun _ hk => hk.2) (.slice Ao19 x103001_1.length co19)) (fun _ hk => trivial), by repeat (first | (with_reducible first | exact HB.out | apply below_alloc | apply pw_below_drewN | apply below_drew1 | refine below_set ?_ GE101.out | refine below_set ?_ GE102.out) | exact HB.out)⟩
end Go.Proofs.YtjmkhdhffmlhiaaDoor.PAll
end
section
namespace Go.Proofs.YtjmkhdhffmlhiaaDoor.PAll
set_option linter.unusedVariables false
set_option linter.unusedSimpArgs false
open Go.RowKit Go.Shelf Go.Proofs.YtjmkhdhffmlhiaaDoorW.PrintWords Go.Proofs.YtjmkhdhffmlhiaaDoorW.PrintLast Go.Proofs.YtjmkhdhffmlhiaaDoorW.PrintMore
attribute [local go_sem] Oper.semAt_some
def Marks (B : Nat) (W : World) (ds : List Deferred) : Prop :=
  ∃ Ds : List Nat, ds = Ds.map (fun D => { target := .collected D, args := #[] }) ∧ Ds.Nodup ∧ ∀ D ∈ Ds, B ≤ D ∧ W.heap[D]? = some (.deferred (some []))
theorem Marks.none (B : Nat) (W : World) : Marks B W [] := ⟨[], rfl, List.nodup_nil, fun _ h => by cases h⟩
theorem Marks.keep {B : Nat} {W W' : World} {ds : List Deferred} (h : Marks B W ds) (hk : ∀ k, B ≤ k → k < W.heap.size → W'.heap[k]? = W.heap[k]?) : Marks B W' ds := by
  obtain ⟨Ds, h1, h2, h3⟩ := h
  exact ⟨Ds, h1, h2, fun D hD => ⟨(h3 D hD).1, (hk D (h3 D hD).1 (blk_lt (h3 D hD).2)).trans (h3 D hD).2⟩⟩
theorem Marks.low {B B' : Nat} {W : World} {ds : List Deferred} (h : Marks B W ds) (hB : B' ≤ B) : Marks B' W ds := by
  obtain ⟨Ds, h1, h2, h3⟩ := h
  exact ⟨Ds, h1, h2, fun D hD => ⟨Nat.le_trans hB (h3 D hD).1, (h3 D hD).2⟩⟩
theorem Marks.cons {B D : Nat} {W W' : World} {ds : List Deferred} (h : Marks B W ds) (hk : ∀ k, B ≤ k → k < W.heap.size → W'.heap[k]? = W.heap[k]?) (hD : W.heap.size ≤ D) (hB : B ≤ D) (hW : W'.heap[D]? = some (.deferred (some []))) : Marks B W' ({ target := .collected D, args := #[] } :: ds) := by
  obtain ⟨Ds, h1, h2, h3⟩ := h
  refine ⟨D :: Ds, by rw [h1]; rfl, List.nodup_cons.2 ⟨fun hm => ?_, h2⟩, fun D' hm => ?_⟩
  · have := blk_lt (h3 D hm).2; omega
  · rcases List.mem_cons.1 hm with rfl | hm
    · exact ⟨hB, hW⟩
    · exact ⟨(h3 D' hm).1, (hk D' (h3 D' hm).1 (blk_lt (h3 D' hm).2)).trans (h3 D' hm).2⟩
theorem leave_marks {F : Fence} {n : Nat} {P : Program} {fn : Func} {tmps : Array Value} {R : Ending → World → Prop} {B : Nat} : ∀ (Ds : List Nat) (W : World), Ds.Nodup → (∀ D ∈ Ds, B ≤ D ∧ W.heap[D]? = some (.deferred (some []))) →
    (∀ W', Below B W W' → (∀ k, k ∉ Ds → W'.heap[k]? = W.heap[k]?) → LeavesInM F n P fn tmps R [] .returning W') → LeavesInM F n P fn tmps R (Ds.map (fun D => { target := .collected D, args := #[] })) .returning W
  | [], W, _, _, h => h W (Below.refl _ _) (fun _ _ => rfl)
  | D :: Ds, W, hn, hD, h => by
    obtain ⟨n1, n2⟩ := List.nodup_cons.1 hn
    obtain ⟨b1, b2⟩ := hD D List.mem_cons_self
    refine ⟨by simp, .inl ⟨D, _, rfl, run_takeDeferred b2, ?_⟩⟩
    refine leave_marks Ds _ n2 (fun D' hm => ⟨(hD D' (List.mem_cons_of_mem _ hm)).1, (World.putObj_heap_other (by rintro rfl; exact n1 hm)).trans (hD D' (List.mem_cons_of_mem _ hm)).2⟩) (fun W' hb hk => h W' ?_ fun k hm => ?_)
    · exact ((Below.refl B W).grown (grownBy_putObj' W D (.deferred none)) (Nat.le_trans b1 (Nat.le_of_lt (blk_lt b2))) (fun k e => by cases e; exact b1)).trans hb
    · exact (hk k (fun hh => hm (List.mem_cons_of_mem _ hh))).trans (World.putObj_heap_other (by rintro rfl; exact hm List.mem_cons_self))
theorem Marks.leave {F : Fence} {n : Nat} {P : Program} {fn : Func} {tmps : Array Value} {R : Ending → World → Prop} {B : Nat} {W : World} {ds : List Deferred} (h : Marks B W ds)
    (hr : ∀ W', Below B W W' → (∀ (k : Nat) (o : Obj), W.heap[k]? = some o → o.isCells = true → W'.heap[k]? = some o) → LeavesInM F n P fn tmps R [] .returning W') : LeavesInM F n P fn tmps R ds .returning W := by
  obtain ⟨Ds, rfl, h2, h3⟩ := h
  refine leave_marks Ds W h2 h3 fun W' hb hk => hr W' hb fun k o ho hc => (hk k fun hm => ?_).trans ho
  have := (h3 k hm).2
  rw [ho] at this; cases this; cases hc
theorem S_abide {α : Type} {d : Kd α} {e base : Nat} {ok : Nat → Prop} {W W' : World} {v : Value} {xs : List α} {row : Option Nat} (h : Kd.S d e W base ok v xs) (hg : W.grownBy W' row) (hr : ∀ r, row = some r → ∃ o : Obj, W.heap[r]? = some o ∧ o.isCells = false) : Kd.S d e W' base ok v xs :=
  Kd.S_mono (Kd.S_move (Kd.S_bound h) (fun k hk => hg.block k hk.2.2.1 (fun e => by
    obtain ⟨q, hq, cells, hc⟩ := hk.2.2.2
    obtain ⟨o, ho, hcc⟩ := hr k e.symm
    rw [hc] at ho; cases ho; cases hcc))) (fun _ hk => hk.1)
theorem held_row {K : Nat → Prop} {W : World} {b : Nat} {ok : Nat → Prop} {A : Option Addr} {c : Nat} {r : List Int} (hR : Kd.R (Kd.int .u64) 87 W b ok (.slice A r.length c) r) (hK : ∀ k, some k = (Value.slice A r.length c).ownBlock → K k) : Held K W (.slice A r.length c) r := by
  by_cases h0 : r = []
  · exact .inl ⟨⟨A, c, by rw [h0]; rfl⟩, h0⟩
  · have hC := (Kd.R_reads' hR).2.2
    have hpos : 0 < r.length := List.length_pos_iff.2 h0
    obtain ⟨ad, ha, _⟩ := Kd.at_int hC 0 (by decide) (by omega)
    subst ha
    obtain ⟨inner, ho⟩ := Kd.R_own hR
    obtain ⟨z, hz⟩ : ∃ z, r.length = z + 1 := ⟨r.length - 1, by omega⟩
    rw [hz] at ho
    obtain ⟨g', cap', hv⟩ := ownsRow_succ ho
    injection hv with e1 e2 e3
    injection e1 with e1
    refine .inr ⟨g', 0, c, by rw [e1], hK g' (by rw [e1]; rfl), Kd.R_lt hR g' (by rw [e1]; rfl), fun j hj => ?_⟩
    obtain ⟨ad2, h2, h3⟩ := Kd.at_int hC (j : Int) (by omega) (by omega)
    injection h2 with h2
    rw [← h2, e1, rd_nat, Int.toNat_natCast] at h3
    by_cases hj0 : j = 0
    · subst hj0
      simpa [Addr.add] using h3
    · simpa [Addr.add, hj0] using h3
def turnS (i : Nat) (rows : List S24) (x : Int) : List S24 := rows.set x.toNat ⟨(rd_T24 rows x).f0, putw (rd_T24 rows x).f1 i⟩
def turnA : Nat → List S24 → List S24 → List S24
  | _, [], rows => rows
  | i, s :: l, rows => turnA (i + 1) l ((els (64 * s.f1.length) s.f1).foldl (turnS i) rows)
def Rok (n m : Nat) (rows : List S24) : Prop := rows.length = n ∧ ∀ r ∈ rows, r.f1.length = (m + 63) / 64
theorem rdT_nat (rows : List S24) {j : Nat} (h : j < rows.length) : rd_T24 rows (j : Int) = rows[j] := by simp [rd_T24, List.getD_eq_getElem?_getD, List.getElem?_eq_getElem h]
theorem Rok.turn {n m i : Nat} {rows : List S24} (h : Rok n m rows) {x : Int} (h0 : 0 ≤ x) (h1 : x < n) : Rok n m (turnS i rows x) := by
  obtain ⟨j, rfl⟩ := Int.eq_ofNat_of_zero_le h0
  have hj : j < rows.length := by rw [h.1]; omega
  refine ⟨by unfold turnS; rw [List.length_set, h.1], fun r hr => ?_⟩
  unfold turnS at hr
  rcases List.mem_or_eq_of_mem_set hr with hr | rfl
  · exact h.2 r hr
  · simp only [putw_length]
    rw [rdT_nat rows hj]
    exact h.2 _ (List.getElem_mem hj)
theorem Rok.turns {n m i : Nat} : ∀ (xs : List Int) {rows : List S24}, Rok n m rows → (∀ x ∈ xs, 0 ≤ x ∧ x < n) → Rok n m (xs.foldl (turnS i) rows)
  | [], _, h, _ => h
  | x :: xs, _, h, hx => Rok.turns xs (h.turn (hx x List.mem_cons_self).1 (hx x List.mem_cons_self).2) (fun y hy => hx y (List.mem_cons_of_mem _ hy))
theorem els_in {n : Nat} {ws : List Int} (hM : MayP (n : Int) ws) {x : Int} (hx : x ∈ els (64 * ws.length) ws) : 0 ≤ x ∧ x < n := by
  obtain ⟨j, j1, j2, rfl⟩ := mem_els.1 hx
  have hj : j < n := Nat.lt_of_not_le fun hle => by rw [hM.2.2.2 j (by omega)] at j2; cases j2
  omega
theorem put_row (rows : List S24) (j i : Nat) (w0 W : World) (ok : Nat → Prop) (g cap : Nat) (hB : Below w0.heap.size w0 W) (hS : Kd.S k24 24 W w0.heap.size ok (.slice (some ⟨g, 0, none⟩) rows.length cap) rows) (hj : j < rows.length) (r : List Int)
    (hp : bitset_put.f (rd_T24 rows (j : Int)).f0 (rd_T24 rows (j : Int)).f1 (i : Int) = some r) :
    ∃ v, W.cell? ⟨g, j * 2, none⟩ = some (.int .i64 (rd_T24 rows (j : Int)).f0) ∧ W.cell? ⟨g, j * 2 + 1, none⟩ = some v ∧
      Calls Tryd.prog 72 #[.agg #[.int .i64 (rd_T24 rows (j : Int)).f0, v], .int .i64 (i : Int)] W fun e w' => e = .returned (.tuple #[]) ∧
        Kd.S k24 24 w' w0.heap.size ok (.slice (some ⟨g, 0, none⟩) rows.length cap) (rows.set j ⟨(rd_T24 rows (j : Int)).f0, r⟩) ∧ Below w0.heap.size w0 w' ∧ Kept W w' ok ∧ KeepsOthers W w' := by
  obtain ⟨oki, c, hcl, hM, hcc, hfr, hoki, hH⟩ := Kd.S_elem hS (rd_T24 rows (j : Int)) (j : Int) (by omega) (by omega)
  rw [Int.toNat_natCast] at hM hcc hfr
  have he : rows.getD j (rd_T24 rows (j : Int)) = rd_T24 rows (j : Int) := by rw [rdT_nat rows hj, List.getD_eq_getElem?_getD, List.getElem?_eq_getElem hj]; rfl
  rw [he] at hM
  obtain ⟨v, rfl, hR⟩ := k24_openM hM
  refine ⟨v, hcc 0 _ rfl, hcc 1 _ rfl, (bitset_put.calls _ (fun k => some k = v.ownBlock) v _ (i : Int) r w0 W hB (Kd.R_tight rfl hR) hp).mono ?_⟩
  rintro e w' ⟨rfl, hR', hB', hK'⟩
  have hR2 : Kd.R (Kd.int .u64) 87 w' w0.heap.size oki v r := Kd.R_mono (Kd.R_tight rfl hR') (fun k hk => hR.1 k hk.symm)
  refine ⟨rfl, ?_, hB', ⟨hK'.1, fun k hk hn => hK'.2 k hk (fun h => hn (hoki k (hR.1 k h.symm)).1)⟩, ko_kept hR hK'⟩
  have h2 := Kd.H_back (Kd.H_kept hH hK' (fun k _ h he => h (hR.1 k he.symm))) (k24_mkM w' w0.heap.size oki ⟨(rd_T24 rows (j : Int)).f0, r⟩ hR2) (fun _ h => h)
  rwa [Int.toNat_natCast] at h2
set_option maxHeartbeats 8000000 in
set_option maxRecDepth 100000 in
theorem Turn_yes (k : Nat) (n : Nat) (A0 : Option Addr) (c0 : Nat) (l0 rows : List S24) (w : World) (hr0 : Kd.C k24 w A0 l0.length l0) (hc0 : l0.length ≤ c0) (hG : Tz w) (hT : TabP (n : Int) l0) (hg : Goods l0)
    (hM : bitset_MayTable.f k (n : Int) l0 = some true) (hBl : bitset_blanks.f k (l0.length : Int) (n : Int) = some ((l0.length : Int), rows)) (hRk : Rok n l0.length rows) :
    Calls Tryd.prog 42 #[.agg #[.int .i64 (n : Int), .slice A0 l0.length c0]] w fun e w' => ∃ v : Value, e = .returned (.tuple #[.agg #[.int .i64 (l0.length : Int), v], .int .i64 0]) ∧ Kd.S k24 24 w' w.heap.size (fun _ => True) v (turnA 0 l0 rows) ∧ Below w.heap.size w w' := by
  have hu24 := Tryd.underlying24
  have hu56 := Tryd.underlying56
  have HC := Aside0.mk hr0
  have HG := Aside0.mk hG
  have HM := Aside0.mk hM
  have HBl := Aside0.mk hBl
  clear hr0 hG hM hBl
  obtain ⟨o1, ho1⟩ : ∃ o1 : Obj, o1 = .cells #[.int .i64 n, .slice A0 l0.length c0] 56 (0, 0) := ⟨_, rfl⟩
  obtain ⟨o2, ho2⟩ : ∃ o2 : Obj, o2 = .cells #[.int .i64 0, .slice none 0 0] 56 (0, 0) := ⟨_, rfl⟩
  have K0 : ((w.alloc o1).alloc o2).heap[w.heap.size]? = some o1 := blk_alloc (blk_new w o1) _
  have K1 : ((w.alloc o1).alloc o2).heap[w.heap.size + 1]? = some o2 := by have := blk_new (w.alloc o1) o2; rwa [World.size_alloc] at this
  have HB0 : Below w.heap.size w ((w.alloc o1).alloc o2) := below_alloc (below_alloc (Below.refl _ _) _) _
  rw [ho1, ho2] at K0 K1 HB0
  clear ho1 ho2 o1 o2
  have KA := Aside0.mk K0
  have KD := Aside0.mk K1
  have HB := Aside0.mk HB0
  clear K0 K1 HB0
  refine (callsIn_wide (n := 6)).1 ?_
  refine callsIn_of_wp_marks Tryd.func42 rfl trivial ?_ rfl
  simp only [Tryd.ntmps42, List.size_toArray, List.length_cons, List.length_nil, Nat.reduceAdd, Nat.reduceSub, Array.replicate_succ, Array.replicate_zero, List.push_toArray, List.append_toArray, List.nil_append, List.cons_append]
  gi_wp2_with (first
    | (refine ⟨trivial, ?_⟩; gi_at_call 85; refine (callsIn_wide.2 (bitset_MayTable.calls k n _ _ l0 true _ (Kd.C_alloc (Kd.C_alloc HC.out _) _) hc0 HM.out)).mono ?_; rintro e w1 ⟨rfl, hb⟩
       have n0_ := Aside0.mk (blk_below KA.out hb); have n2_ := Aside0.mk (blk_below KD.out hb); have n3_ := Aside0.mk (below_step HB.out hb)
       have HS1 := Aside0.mk (below_size hb)
       clear KA KD HB hb
       have KA := n0_; have KD := n2_; have HB := n3_
       clear n0_ n2_ n3_
       have q0 := (blk_cell KA.out 0).trans rfl; have q1 := (blk_cell KA.out 1).trans rfl)
    | (refine ⟨trivial, ?_⟩; gi_at_call 86; refine (callsIn_wide.2 (bitset_blanks.calls k l0.length n l0.length rows _ HBl.out)).mono ?_; rintro e w2 ⟨vt, rfl, ho, hb⟩
       obtain ⟨At, ct, et⟩ := Kd.S_slice ho
       subst et
       have n0_ := Aside0.mk (blk_below KA.out hb); have n2_ := Aside0.mk (blk_below KD.out hb); have n3_ := Aside0.mk (below_step HB.out hb); have HT := Aside0.mk (Kd.S_lower (Kd.S_mono (Kd.S_bound ho) (fun k_ hk => show w1.heap.size ≤ k_ ∧ k_ < w2.heap.size from ⟨hk.2.1, hk.2.2.1⟩)) (below_size HB.out))
       have HS2 := Aside0.mk (below_size hb)
       clear KA KD HB hb ho q0 q1
       have KA := n0_; have KD := n2_; have HB := n3_
       clear n0_ n2_ n3_
       have q0 := (blk_cell (blk_alloc KA.out (.cells #[.int .i64 l0.length, .slice At rows.length ct] 56 (0, 0))) 0).trans rfl; have q1 := (blk_cell (blk_alloc KA.out (.cells #[.int .i64 l0.length, .slice At rows.length ct] 56 (0, 0))) 1).trans rfl))
  refine wpIn_loop (fun a W => ∃ (j : Nat) (rk : List S24) (ds : List Deferred) (u5 u6 u22 u23 u24 u25 u26 u27 u36 : Value), a = { tmps := #[.agg #[.int .i64 n, .slice A0 l0.length c0], .pointer (some ⟨w.heap.size, 0, none⟩), .pointer (some ⟨w.heap.size + 1, 0, none⟩), .int .i64 0, .pointer (some ⟨w2.heap.size, 0, none⟩), u5, u6, undef, .agg #[.int .i64 n, .slice A0 l0.length c0], .bool true, .bool false, undef, .pointer (some ⟨w.heap.size, 1, none⟩), .slice A0 l0.length c0, .int .i64 l0.length, .pointer (some ⟨w.heap.size, 0, none⟩), .int .i64 n, .agg #[.int .i64 l0.length, .slice At rows.length ct], .pointer (some ⟨w.heap.size, 1, none⟩), .slice A0 l0.length c0, .int .i64 l0.length, .int .i64 j, u22, u23, u24, u25, u26, u27, undef, undef, undef, undef, undef, undef, undef, undef, u36, undef], defers := ds } ∧ Aside0 (j ≤ l0.length) ∧ Aside0 (turnA j (l0.drop j) rk = turnA 0 l0 rows) ∧ Aside0 (Rok n l0.length rk) ∧ Aside0 (Marks w2.heap.size W ds) ∧
      Aside0 (W.heap[w.heap.size]? = some (.cells #[.int .i64 n, .slice A0 l0.length c0] 56 (0, 0))) ∧ Aside0 (W.heap[w.heap.size + 1]? = some (.cells #[.int .i64 0, .slice none 0 0] 56 (0, 0))) ∧ Aside0 (W.heap[w2.heap.size]? = some (.cells #[.int .i64 l0.length, .slice At rows.length ct] 56 (0, 0))) ∧
      Aside0 (Kd.S k24 24 W w.heap.size (fun k_ => w1.heap.size ≤ k_ ∧ k_ < w2.heap.size) (.slice At rows.length ct) rk) ∧ Aside0 (Below w.heap.size w W))
    (fun a _ => l0.length - (intOf (a.tmps.getD 21 undef)).toNat) ?start ?round
  case start =>
    exact ⟨0, rows, [], undef, undef, undef, undef, undef, undef, undef, undef, undef, rfl, ⟨Nat.zero_le _⟩, ⟨rfl⟩, ⟨hRk⟩, ⟨Marks.none _ _⟩, ⟨blk_alloc KA.out _⟩, ⟨blk_alloc KD.out _⟩, ⟨blk_new _ _⟩, ⟨Kd.S_alloc HT.out _⟩, ⟨below_alloc HB.out _⟩⟩
  case round =>
    clear KA KD HB HT q0 q1
    rintro a wr ⟨j, rk, ds, u5, u6, u22, u23, u24, u25, u26, u27, u36, rfl, hj, hA, hRj, HMk, KA, KD, KU, HT, HB⟩
    by_cases hlt : j < l0.length
    · obtain ⟨ad, A1, c1, eA, q0, q1, hlc, hC1⟩ := at_T24 (Kd.C_below HC.out HB.out) (j : Int) (by omega) (by omega)
      subst eA
      simp only [Int.toNat_natCast] at q0 q1
      obtain ⟨s, hs⟩ : ∃ s, rd_T24 l0 (j : Int) = s := ⟨_, rfl⟩
      have hsl : s = l0[j] := by rw [← hs, rdT_nat l0 hlt]
      rw [hs] at q0 q1 hlc hC1
      have hsm : MayP (n : Int) s.f1 ∧ s.f0 = (n : Int) := by
        have := hT.2.2.2 _ (List.getElem_mem hlt)
        rw [← hsl] at this
        refine ⟨?_, this.2⟩
        have h2 := this.1; unfold MayS at h2; rwa [this.2] at h2
      have hsg : Wds s.f1 := by have := hg _ (List.getElem_mem hlt); rw [← hsl] at this; exact this.1
      obtain ⟨s0, ws⟩ := s
      obtain rfl : s0 = (n : Int) := hsm.2
      simp only at q0 q1 hlc hC1 hsm hsg
      have hd : decide (j < l0.length) = true := decide_eq_true hlt
      have HC1 := Aside0.mk hC1
      clear hC1
      gi_wp2_with (refine ⟨trivial, ?_⟩; gi_at_call 39; refine (callsIn_wide.2 (All_calls n A1 c1 ws ws _ (Kd.C_alloc (Kd.C_alloc HC1.out _) _) hlc (own_eq hsm.1 hsg))).mono ?_; rintro e w3 ⟨B, Ar, cr, rfl, kb, hle, hR, hb⟩)
      have n0_ := Aside0.mk (blk_below (blk_alloc (blk_alloc KA.out (.cells #[.int .i64 j] 3 (0, 0))) (.cells #[.int .i64 n, .slice A1 ws.length c1] 24 (0, 0))) hb)
      have n1_ := Aside0.mk (blk_below (blk_alloc (blk_alloc KD.out (.cells #[.int .i64 j] 3 (0, 0))) (.cells #[.int .i64 n, .slice A1 ws.length c1] 24 (0, 0))) hb)
      have n2_ := Aside0.mk (blk_below (blk_alloc (blk_alloc KU.out (.cells #[.int .i64 j] 3 (0, 0))) (.cells #[.int .i64 n, .slice A1 ws.length c1] 24 (0, 0))) hb)
      have n3_ := Aside0.mk (Kd.S_below (Kd.S_alloc (Kd.S_alloc HT.out (.cells #[.int .i64 j] 3 (0, 0))) (.cells #[.int .i64 n, .slice A1 ws.length c1] 24 (0, 0))) hb)
      have n4_ := Aside0.mk (below_step (below_alloc (below_alloc HB.out (.cells #[.int .i64 j] 3 (0, 0))) (.cells #[.int .i64 n, .slice A1 ws.length c1] 24 (0, 0))) hb)
      have n5_ := Aside0.mk (blk_below (blk_alloc (blk_new wr (.cells #[.int .i64 j] 3 (0, 0))) (.cells #[.int .i64 n, .slice A1 ws.length c1] 24 (0, 0))) hb)
      have n6_ := Aside0.mk (HMk.out.keep (W' := w3) fun k_ _ hk_ => by
        have h1 : ((wr.alloc (.cells #[.int .i64 j] 3 (0, 0))).alloc (.cells #[.int .i64 n, .slice A1 ws.length c1] 24 (0, 0))).heap[k_]? = wr.heap[k_]? := (below_alloc (below_alloc (Below.refl wr.heap.size wr) (.cells #[.int .i64 j] 3 (0, 0))) (.cells #[.int .i64 n, .slice A1 ws.length c1] 24 (0, 0))).block k_ hk_
        exact (hb.block k_ (by rw [World.size_alloc, World.size_alloc]; omega)).trans h1)
      have hUr := blk_lt KU.out
      have hw12 : w.heap.size + 2 ≤ w1.heap.size := by have := HS1.out; rw [World.size_alloc, World.size_alloc] at this; omega
      have hle' : wr.heap.size + 2 ≤ B := by rw [World.size_alloc, World.size_alloc] at hle; omega
      have hRb : ∀ k_, (Value.slice Ar ws.length cr).ownBlock = some k_ → wr.heap.size + 2 ≤ k_ := fun k_ hk_ => by
        have := Kd.R_base hR k_ hk_
        rw [World.size_alloc, World.size_alloc] at this; omega
      clear KA KD KU HT HB HMk hb hle q0 q1
      have KA := n0_; have KD := n1_; have KU := n2_; have HT := n3_; have HB := n4_; have KI := n5_; have HMk := n6_
      clear n0_ n1_ n2_ n3_ n4_ n5_ n6_
      have hcB := (blk_cell kb 0).trans rfl
      have hBlt := blk_lt kb
      have htab : 0 < w.heap.size := World.block_lt_of_cell? w _ (HG.out 0 (by decide))
      have hKne : ∀ k_, (k_ = B ∨ k_ = 0 ∨ some k_ = (Value.slice Ar ws.length cr).ownBlock) → ¬ (w1.heap.size ≤ k_ ∧ k_ < w2.heap.size) := by
        intro k_ hk_ e
        rcases hk_ with rfl | rfl | hk_
        · omega
        · omega
        · have := hRb k_ hk_.symm; omega
      have hKlt : ∀ k_, (k_ = B ∨ k_ = 0 ∨ some k_ = (Value.slice Ar ws.length cr).ownBlock) → k_ < w3.heap.size := by
        intro k_ hk_
        rcases hk_ with rfl | rfl | hk_
        · exact hBlt
        · exact Nat.lt_of_lt_of_le htab (below_size HB.out)
        · exact Kd.R_lt hR k_ hk_.symm
      have hHeld := held_row (K := fun k_ => k_ = B ∨ k_ = 0 ∨ some k_ = (Value.slice Ar ws.length cr).ownBlock) hR (fun k_ hk_ => .inr (.inr hk_))
      have HHeld := Aside0.mk hHeld
      have HKne := Aside0.mk hKne
      have HKlt := Aside0.mk hKlt
      have HR3 := Aside0.mk hR
      clear hHeld hKne hKlt hR
      refine wpIn_rangeFunc_ownF rfl (by decide) (gf := 82) (lb := #[.pointer (some ⟨B, 0, none⟩)]) rfl trivial (enters_of Tryd.func82 (by kernel_rfl) rfl)
        (all_stopsM _ 5 (by decide) B _ ws hsg (by have := hsm.1.2.2.1; have := hsm.1.2.1; omega) w3 hBlt (.inr (.inl rfl)) hcB HHeld.out (tz_at HG.out HB.out)) (fun h g => Ke.trans h g) (fun W l o o' hl ho hc hw k_ hk_ => ?kb) (Below.refl _ _) (fun _ => rfl)
        (fun pre W => ((Kd.S k24 24 W w.heap.size (fun k_ => w1.heap.size ≤ k_ ∧ k_ < w2.heap.size) (.slice At rows.length ct) ((pre.map (·.1)).foldl (turnS j) rk)) ∧ Kept w3 W (fun k_ => w1.heap.size ≤ k_ ∧ k_ < w2.heap.size)) ∧ Below w.heap.size w W)
        (fun _ _ _ => False)
        (OwnFrom.and (fun s X Y row hs hg_ hr => ⟨S_abide hs.1 hg_ (fun r e => (hr r e).2), Nat.le_trans hs.2.1 hg_.size, fun i hi hn => (hg_.block i (Nat.lt_of_lt_of_le hi hs.2.1) (fun e => by have := (hr i e.symm).1; omega)).trans (hs.2.2 i hi hn)⟩) (ownFrom_below (Nat.le_refl _) (below_size HB.out)))
        (fun _ _ _ _ _ hs _ _ => hs)
        ⟨⟨HT.out, Kept.refl _ _⟩, HB.out⟩
        (fun x => { tmps := #[.agg #[.int .i64 n, .slice (some ad) l0.length c0], .pointer (some ⟨w.heap.size, 0, none⟩), .pointer (some ⟨w.heap.size + 1, 0, none⟩), .int .i64 0, .pointer (some ⟨w2.heap.size, 0, none⟩), .pointer (some ⟨wr.heap.size, 0, none⟩), .pointer (some ⟨wr.heap.size + 1, 0, none⟩), .int .i64 x.1, .agg #[.int .i64 n, .slice (some ad) l0.length c0], .bool true, .bool false, undef, .pointer (some ⟨w.heap.size, 1, none⟩), .slice (some ad) l0.length c0, .int .i64 l0.length, .pointer (some ⟨w.heap.size, 0, none⟩), .int .i64 n, .agg #[.int .i64 l0.length, .slice At rows.length ct], .pointer (some ⟨w.heap.size, 1, none⟩), .slice (some ad) l0.length c0, .int .i64 l0.length, .int .i64 j, .bool true, .int .i64 j, .pointer (some (ad.add (j * 2))), .agg #[.int .i64 n, .slice A1 ws.length c1], .agg #[.int .i64 n, .slice A1 ws.length c1], .func (.func 82) #[] #[.pointer (some ⟨B, 0, none⟩)], .int .i64 x.1, undef, undef, undef, undef, undef, undef, undef, u36, undef], defers := [] }) ?assign ?body ?done ?stop
      case kb =>
        have h1 := HKlt.out k_ hk_
        exact World.putObj_heap_other (fun e => by omega)
      case assign =>
        intro l x W K hK
        gi_wp2
        exact hK
      case body =>
        rintro l pre ⟨x, hx⟩ W ⟨⟨hS, hKp⟩, hBl⟩ _
        have FU := blk_drew ((hKp.2 _ (blk_lt KU.out) (fun h => by omega)).trans KU.out)
        have FI := blk_drew ((hKp.2 _ (blk_lt KI.out) (fun h => by omega)).trans KI.out)
        have q0 := (blk_cell FU 0).trans rfl
        have q1 := (blk_cell FU 1).trans rfl
        have q2 := (blk_cell FI 0).trans rfl
        have hx2 := els_in hsm.1 hx
        obtain ⟨y, rfl⟩ := Int.eq_ofNat_of_zero_le hx2.1
        have hRp : Rok n l0.length ((pre.map (·.1)).foldl (turnS j) rk) := hRj.out.turns _ (fun z hz => by obtain ⟨z', _, rfl⟩ := List.mem_map.1 hz; exact els_in hsm.1 z'.2)
        obtain ⟨rp, hrp⟩ : ∃ rp, (pre.map (·.1)).foldl (turnS j) rk = rp := ⟨_, rfl⟩
        rw [hrp] at hS hRp
        have hyl : y < rp.length := by rw [hRp.1]; omega
        obtain ⟨g, cap, ev, _, _, _⟩ := Kd.S_form hS (by omega)
        injection ev with e1 e2 e3
        subst e1 e3
        rw [e2] at hS q1
        have hrd := rdT_nat rp hyl
        obtain ⟨v, z0, z1, hcall⟩ := put_row rp y j w W.drew _ g ct (below_drew1 hBl) (Kd.S_drew hS) hyl (putw (rd_T24 rp (y : Int)).f1 j) (put_eq (by
          rw [hrd, hRp.2 _ (List.getElem_mem hyl)]; omega) (by have := hT.2.2.1; omega))
        have hnew : turnS j rp (y : Int) = rp.set y ⟨(rd_T24 rp (y : Int)).f0, putw (rd_T24 rp (y : Int)).f1 j⟩ := by unfold turnS; rw [Int.toNat_natCast]
        obtain ⟨f0, hf0⟩ : ∃ f0, (rd_T24 rp (y : Int)).f0 = f0 := ⟨_, rfl⟩
        rw [hf0] at z0 hcall hnew
        have HCALL := Aside0.mk hcall
        clear hcall
        have hmx : Tryd.prog.follows .mixedOrders = true := by kernel_rfl
        gi_wp2
        gi_region_with_o (refine ⟨trivial, ?_⟩; gi_at_call 72; refine (CallsIn.inRound l (callsIn_wide.2 HCALL.out)).mono ?_; rintro e w5 ⟨rfl, hS5, hB5, hK5, hO5⟩)
        all_goals gi_wp2
        all_goals exact ⟨(KeepsOthers.drew _).trans hO5, fun k_ hk_ => hK5.2 k_ (Nat.lt_of_lt_of_le (HKlt.out k_ hk_) hKp.1) (HKne.out k_ hk_),
          ⟨by
            simp only [List.map_append, List.map_cons, List.map_nil, List.foldl_append, List.foldl_cons, List.foldl_nil]
            rw [hrp, hnew, e2]
            exact hS5, Nat.le_trans hKp.1 hK5.1, fun i hi hn => (hK5.2 i (Nat.lt_of_lt_of_le hi hKp.1) hn).trans (hKp.2 i hi hn)⟩, hB5⟩
      case stop =>
        rintro D c pre W _ _ h _
        exact h.elim
      case done =>
        rintro D ys W hD hys ⟨⟨hS, hKp⟩, hBl⟩ hK
        have hys' : List.map (fun x => x.1) ys = els (64 * ws.length) ws := hys
        rw [hys'] at hS
        have hl4 : l0.length ≤ 4096 := hT.2.2.1
        gi_wp2
        rw [show ((j : Int) + 1) = ((j + 1 : Nat) : Int) from by omega]
        refine ⟨⟨j + 1, _, _, _, _, _, _, _, _, _, _, _, rfl, ⟨hlt⟩, ⟨?_⟩, ⟨hRj.out.turns _ (fun z hz => els_in hsm.1 hz)⟩, ⟨HMk.out.cons (fun k_ hB_ hk_ => hKp.2 k_ hk_ (fun h => by omega)) hD ?_ hK⟩,
          ⟨(hKp.2 _ (blk_lt KA.out) (fun h => by omega)).trans KA.out⟩, ⟨(hKp.2 _ (blk_lt KD.out) (fun h => by omega)).trans KD.out⟩, ⟨(hKp.2 _ (blk_lt KU.out) (fun h => by omega)).trans KU.out⟩, ⟨hS⟩, ⟨hBl⟩⟩, ?_⟩
        · have := hA.out
          rw [List.drop_eq_getElem_cons hlt, ← hsl] at this
          exact this
        · have := blk_lt KU.out; omega
        · show l0.length - (intOf (.int .i64 ((j + 1 : Nat) : Int))).toNat < l0.length - (intOf (.int .i64 (j : Int))).toNat
          simp only [intOf, Int.toNat_natCast]
          omega
    · have hje : j = l0.length := by have := hj.out; omega
      subst hje
      have hd : decide (l0.length < l0.length) = false := by simp
      have q0 := (blk_cell KU.out 0).trans rfl
      have q1 := (blk_cell KU.out 1).trans rfl
      have q2 := (blk_cell KD.out 0).trans rfl
      have q3 := (blk_cell KD.out 1).trans rfl
      have z0 := blk_frozen KD.out 0
      have z1 := blk_frozen KD.out 1
      gi_wp2
      have hw12 : w.heap.size + 2 ≤ w1.heap.size := by have := HS1.out; rw [World.size_alloc, World.size_alloc] at this; omega
      obtain ⟨X, hX⟩ : ∃ X, (wr.setCell ⟨w.heap.size + 1, 0, none⟩ (Value.int IntKind.i64 l0.length)).setCell ⟨w.heap.size + 1, 1, none⟩ (Value.slice At rows.length ct) = X := ⟨_, rfl⟩
      have hKX : Kept wr X (fun k_ => k_ = w.heap.size + 1) := by
        refine ⟨by rw [← hX, World.size_setCell, World.size_setCell]; exact Nat.le_refl _, fun k_ hk_ hn_ => ?_⟩
        rw [← hX, Below.heap_setCell _ _ _ _ hn_, Below.heap_setCell _ _ _ _ hn_]
      have hXg : X.heap[w.heap.size + 1]? = some (.cells #[.int .i64 l0.length, .slice At rows.length ct] 56 (0, 0)) := hX ▸ blk_put (blk_put KD.out 0 (Value.int IntKind.i64 l0.length) rfl) 1 (Value.slice At rows.length ct) rfl
      have hXB := wb (g := w.heap.size + 1) hX.symm HB.out (by omega)
      have hXS := Kd.S_kept HT.out hKX (fun k_ hk_ e => by omega)
      have hwr := blk_lt KU.out
      have hXM : Marks w.heap.size X ds := ((HMk.out.keep (W' := X) fun k_ hB_ hk_ => hKX.2 k_ hk_ (fun e => by have := HS2.out; omega))).low (by have := HS2.out; omega)
      rw [hX]
      refine Marks.leave hXM fun W' hb hcc => ?_
      have c0 := (blk_cell (hcc _ _ hXg rfl) 0).trans rfl
      have c1 := (blk_cell (hcc _ _ hXg rfl) 1).trans rfl
      refine ⟨.tuple #[.agg #[.int .i64 l0.length, .slice At rows.length ct], .int .i64 0], ?_, _, rfl, ?_, hXB.trans hb⟩
      · simp [results, Tryd.f42, go_sem, c0, c1]
      · have hA2 : rk = turnA 0 l0 rows := by
          have := hA.out
          rw [List.drop_length] at this
          exact this
        rw [← hA2]
        exact Kd.S_mono (Kd.S_move (Kd.S_bound hXS) (fun k_ hk_ => by
          obtain ⟨q, hq, cells, hc⟩ := hk_.2.2.2
          exact (hcc _ _ hc rfl).trans hc.symm)) (fun _ _ => trivial)
end Go.Proofs.YtjmkhdhffmlhiaaDoor.PAll
end
section
namespace Go.Proofs.YtjmkhdhffmlhiaaDoor.PAll
set_option linter.unusedVariables false
open Go.RowKit Go.Shelf Go.Proofs.YtjmkhdhffmlhiaaDoorW.PrintWords Go.Proofs.YtjmkhdhffmlhiaaDoorW.PrintLast Go.Proofs.YtjmkhdhffmlhiaaDoorW.PrintMore
def RowsAre (n m : Nat) (p : Nat → Nat → Bool) (rows : List S24) : Prop := rows.length = n ∧ ∀ (x : Nat) (h : x < rows.length), rows[x].f0 = (m : Int) ∧ Is m (p x) rows[x].f1
theorem S_ext {a b : S24} (h0 : a.f0 = b.f0) (h1 : a.f1 = b.f1) : a = b := by
  obtain ⟨a0, a1⟩ := a
  obtain ⟨b0, b1⟩ := b
  simp only at h0 h1
  rw [h0, h1]
theorem RowsAre.eq {n m : Nat} {p q : Nat → Nat → Bool} {rows rows' : List S24} (h : RowsAre n m p rows) (k : RowsAre n m q rows') (hpq : ∀ x, x < n → ∀ j, j < m → p x j = q x j) : rows = rows' := by
  refine List.ext_getElem (h.1.trans k.1.symm) fun x h1 h2 => ?_
  obtain ⟨a1, a2⟩ := h.2 x h1
  obtain ⟨b1, b2⟩ := k.2 x h2
  exact S_ext (a1.trans b1.symm) (a2.eq b2 (hpq x (h.1 ▸ h1)))
theorem RowsAre.congr {n m : Nat} {p q : Nat → Nat → Bool} {rows : List S24} (h : RowsAre n m p rows) (hpq : ∀ x, x < n → ∀ j, j < m → p x j = q x j) : RowsAre n m q rows :=
  ⟨h.1, fun x hx => ⟨(h.2 x hx).1, (h.2 x hx).2.congr (hpq x (h.1 ▸ hx))⟩⟩
theorem RowsAre.set {n m : Nat} {p : Nat → Nat → Bool} {rows : List S24} (h : RowsAre n m p rows) {y : Nat} (q : Nat → Bool) {f0 : Int} {ws : List Int} (h0 : f0 = (m : Int)) (hq : Is m q ws) : RowsAre n m (fun x j => if x = y then q j else p x j) (rows.set y ⟨f0, ws⟩) := by
  refine ⟨by rw [List.length_set, h.1], fun x hx => ?_⟩
  have hx' : x < rows.length := by rwa [List.length_set] at hx
  by_cases hxy : x = y
  · subst hxy
    simp only [List.getElem_set_self, if_pos]
    exact ⟨h0, hq⟩
  · rw [List.getElem_set_ne (fun e => hxy e.symm)]
    simp only [hxy, if_false]
    exact h.2 x hx'
theorem RowsAre.turn {n m : Nat} {p : Nat → Nat → Bool} {rows : List S24} (h : RowsAre n m p rows) {y i : Nat} (hy : y < n) (hi : i < m) : RowsAre n m (fun x j => p x j || (decide (x = y) && decide (j = i))) (turnS i rows (y : Int)) := by
  have hyl : y < rows.length := by rw [h.1]; exact hy
  unfold turnS
  rw [rdT_nat rows hyl, Int.toNat_natCast]
  obtain ⟨a1, a2⟩ := h.2 y hyl
  refine (h.set _ a1 (a2.put hi)).congr fun x _ j _ => ?_
  by_cases hxy : x = y
  · subst hxy; simp
  · simp [hxy]
theorem RowsAre.turns {n m : Nat} {i : Nat} (hi : i < m) : ∀ (xs : List Int) {p : Nat → Nat → Bool} {rows : List S24}, RowsAre n m p rows → (∀ z ∈ xs, 0 ≤ z ∧ z < n) → RowsAre n m (fun x j => p x j || (decide ((x : Int) ∈ xs) && decide (j = i))) (xs.foldl (turnS i) rows)
  | [], p, rows, h, _ => h.congr fun x _ j _ => by simp
  | z :: xs, p, rows, h, hz => by
    obtain ⟨y, rfl⟩ := Int.eq_ofNat_of_zero_le (hz z List.mem_cons_self).1
    have hy : y < n := by have := (hz _ List.mem_cons_self).2; omega
    refine (RowsAre.turns hi xs (h.turn hy hi) (fun z h => hz z (List.mem_cons_of_mem _ h))).congr fun x _ j _ => ?_
    have e : ((x : Int) = (y : Int)) ↔ x = y := by omega
    simp only [List.mem_cons, e, Bool.decide_or]
    generalize p x j = a1
    generalize decide (x = y) = a2
    generalize decide (j = i) = a3
    generalize decide ((x : Int) ∈ xs) = a4
    revert a1 a2 a3 a4
    decide
theorem els_mem {n : Nat} {ws : List Int} {x : Nat} : decide ((x : Int) ∈ els (64 * ws.length) ws) = hb ws x := by
  rw [Bool.eq_iff_iff, decide_eq_true_iff, mem_els]
  constructor
  · rintro ⟨j, _, j2, j3⟩
    rw [show x = j by omega]; exact j2
  · intro h
    exact ⟨x, Nat.lt_of_not_le (fun hle => by rw [hb_high hle] at h; cases h), h, rfl⟩
theorem RowsAre.turnA {n m : Nat} : ∀ (l : List S24) (i : Nat) {p : Nat → Nat → Bool} {rows : List S24}, RowsAre n m p rows → i + l.length ≤ m → (∀ s ∈ l, MayP (n : Int) s.f1) → RowsAre n m (fun x j => p x j || (decide (i ≤ j) && hb (l.getD (j - i) ⟨0, []⟩).f1 x)) (turnA i l rows)
  | [], i, p, rows, h, _, _ => h.congr fun x _ j _ => by simp [hb_high]
  | s :: l, i, p, rows, h, hi, hm => by
    simp only [List.length_cons] at hi
    have h1 := RowsAre.turns (i := i) (by omega) (els (64 * s.f1.length) s.f1) h (fun z hz => els_in (hm s List.mem_cons_self) hz)
    refine (RowsAre.turnA l (i + 1) h1 (by omega) (fun s hs => hm s (List.mem_cons_of_mem _ hs))).congr fun x _ j _ => ?_
    rw [els_mem (n := n)]
    by_cases hj : j = i
    · subst hj
      have e1 : ¬ (j + 1 ≤ j) := by omega
      have e2 : j - j = 0 := by omega
      rw [e2]
      simp only [e1, Nat.le_refl, List.getD_cons_zero, decide_true, decide_false, Bool.and_true, Bool.true_and, Bool.false_and, Bool.or_false]
    · by_cases hij : i ≤ j
      · have h2 : i + 1 ≤ j := by omega
        obtain ⟨d, rfl⟩ : ∃ d, j = i + 1 + d := ⟨j - (i + 1), by omega⟩
        have e1 : i + 1 + d - (i + 1) = d := by omega
        have e2 : i + 1 + d - i = d + 1 := by omega
        rw [e1, e2]
        simp [hj, hij]
      · have h2 : ¬ i + 1 ≤ j := by omega
        simp [hj, hij, h2]
theorem RowsAre.of {n : Int} {l : List S24} (hT : TabP n l) (hg : Goods l) : RowsAre l.length n.toNat (fun x j => hb (l.getD x ⟨0, []⟩).f1 j) l := by
  refine ⟨rfl, fun x hx => ?_⟩
  have h1 := hT.2.2.2 _ (List.getElem_mem hx)
  have h2 := h1.1
  unfold MayS at h2
  rw [h1.2] at h2
  refine ⟨by rw [h1.2]; have := hT.1; omega, ?_⟩
  have e : l.getD x ⟨0, []⟩ = l[x] := by simp [List.getD_eq_getElem?_getD, List.getElem?_eq_getElem hx]
  show Is n.toNat (fun j => hb (l.getD x ⟨0, []⟩).f1 j) l[x].f1
  rw [e]
  exact h2.is (hg _ (List.getElem_mem hx)).1
theorem RowsAre.tab {n m : Nat} {p : Nat → Nat → Bool} {rows : List S24} (h : RowsAre n m p rows) (hn : n ≤ 4096) (hm : m ≤ 4096) : TabP (m : Int) rows ∧ Goods rows := by
  refine ⟨⟨by omega, by omega, by rw [h.1]; exact hn, fun x hx => ?_⟩, fun x hx => ?_⟩
  · obtain ⟨i, hi, rfl⟩ := List.getElem_of_mem hx
    refine ⟨?_, (h.2 i hi).1⟩
    unfold MayS
    rw [(h.2 i hi).1]
    exact (h.2 i hi).2.may hm
  · obtain ⟨i, hi, rfl⟩ := List.getElem_of_mem hx
    have := (h.2 i hi).2
    exact ⟨this.wds, by have := this.len; omega⟩
end Go.Proofs.YtjmkhdhffmlhiaaDoor.PAll
end
section
namespace Go.Proofs.YtjmkhdhffmlhiaaDoor.PAll
set_option linter.unusedVariables false
set_option linter.unusedSimpArgs false
open Go.RowKit Go.Shelf Go.Proofs.YtjmkhdhffmlhiaaDoorW.PrintWords Go.Proofs.YtjmkhdhffmlhiaaDoorW.PrintLast Go.Proofs.YtjmkhdhffmlhiaaDoorW.PrintMore
attribute [local go_sem] Oper.semAt_some
theorem blanks_rows (m : Nat) (hm : m ≤ 4096) (hbl : bitset_blank.f (m : Int) = some ((m : Int), List.replicate ((m + 63) / 64) 0)) (n : Nat) (hn : n ≤ 4096) : ∀ (d i : Nat) (acc : List S24), i + d = n → RowsAre i m (fun _ _ => false) acc → ∃ rows, RowsAre n m (fun _ _ => false) rows ∧ Ev (fun k => bitset_blanks.l0 k (m : Int) (n : Int) (i : Int) (m : Int) acc) ((m : Int), rows)
  | 0, i, acc, hd, hA => by
    obtain rfl : i = n := by omega
    refine ⟨acc, hA, 1, fun k hk => ?_⟩
    obtain ⟨k, rfl⟩ : ∃ j, k = j + 1 := ⟨k - 1, by omega⟩
    simp [bitset_blanks.l0]
  | d + 1, i, acc, hd, hA => by
    have hA2 : RowsAre (i + 1) m (fun _ _ => false) (acc ++ [⟨(m : Int), List.replicate ((m + 63) / 64) 0⟩]) := by
      refine ⟨by simp [hA.1], fun x hx => ?_⟩
      by_cases hxi : x < acc.length
      · rw [List.getElem_append_left hxi]; exact hA.2 x hxi
      · obtain rfl : x = acc.length := by simp at hx; omega
        simp only [List.getElem_concat_length]
        exact ⟨trivial, Is.none m⟩
    obtain ⟨rows, h1, K, h2⟩ := blanks_rows m hm hbl n hn d (i + 1) _ (by omega) hA2
    refine ⟨rows, h1, K + 1, fun k hk => ?_⟩
    obtain ⟨k, rfl⟩ : ∃ j, k = j + 1 := ⟨k - 1, by omega⟩
    have h3 : (i : Int) < (n : Int) := by omega
    have h4 : acc.length < 4398046511104 := by rw [hA.1]; omega
    show bitset_blanks.l0 (k + 1) (m : Int) (n : Int) (i : Int) (m : Int) acc = _
    rw [bitset_blanks.l0, if_pos h3, hbl, Option.bind_some, if_pos h4, show wrap64 ((i : Int) + 1) = ((i + 1 : Nat) : Int) from by rw [w64_nat (by omega) (by omega)]; omega]
    exact h2 k (by omega)
theorem blanks_ev {m n : Nat} (hm : m ≤ 4096) (hn : n ≤ 4096) : ∃ rows, RowsAre n m (fun _ _ => false) rows ∧ Ev (fun k => bitset_blanks.f k (m : Int) (n : Int)) ((m : Int), rows) :=
  blanks_rows m hm (blank_eq hm) n hn n 0 [] (by omega) ⟨rfl, fun _ h => by cases h⟩
theorem RowsAre.rok {n m : Nat} {p : Nat → Nat → Bool} {rows : List S24} (h : RowsAre n m p rows) : Rok n m rows :=
  ⟨h.1, fun r hr => by obtain ⟨i, hi, rfl⟩ := List.getElem_of_mem hr; exact (h.2 i hi).2.len⟩
set_option maxHeartbeats 8000000 in
set_option maxRecDepth 100000 in
theorem Turn_no (k : Nat) (n : Int) (A0 : Option Addr) (c0 : Nat) (l0 : List S24) (w : World) (hr0 : Kd.C k24 w A0 l0.length l0) (hc0 : l0.length ≤ c0) (hM : bitset_MayTable.f k n l0 = some false) :
    Calls Tryd.prog 42 #[.agg #[.int .i64 n, .slice A0 l0.length c0]] w fun e w' => ∃ v : Value, e = .returned (.tuple #[.agg #[.int .i64 0, v], .int .i64 61]) ∧ Kd.S k24 24 w' w.heap.size (fun _ => True) v [] ∧ Below w.heap.size w w' := by
  have hu24 := Tryd.underlying24
  have hu56 := Tryd.underlying56
  have HC := Aside0.mk hr0
  have HM := Aside0.mk hM
  clear hr0 hM
  obtain ⟨o1, ho1⟩ : ∃ o1 : Obj, o1 = .cells #[.int .i64 n, .slice A0 l0.length c0] 56 (0, 0) := ⟨_, rfl⟩
  obtain ⟨o2, ho2⟩ : ∃ o2 : Obj, o2 = .cells #[.int .i64 0, .slice none 0 0] 56 (0, 0) := ⟨_, rfl⟩
  have K0 : ((w.alloc o1).alloc o2).heap[w.heap.size]? = some o1 := blk_alloc (blk_new w o1) _
  have K1 : ((w.alloc o1).alloc o2).heap[w.heap.size + 1]? = some o2 := by have := blk_new (w.alloc o1) o2; rwa [World.size_alloc] at this
  have HB0 : Below w.heap.size w ((w.alloc o1).alloc o2) := below_alloc (below_alloc (Below.refl _ _) _) _
  rw [ho1, ho2] at K0 K1 HB0
  clear ho1 ho2 o1 o2
  have KA := Aside0.mk K0
  have KD := Aside0.mk K1
  have HB := Aside0.mk HB0
  clear K0 K1 HB0
  refine (callsIn_wide (n := 6)).1 ?_
  refine callsIn_of_wp_marks Tryd.func42 rfl trivial ?_ rfl
  simp only [Tryd.ntmps42, List.size_toArray, List.length_cons, List.length_nil, Nat.reduceAdd, Nat.reduceSub, Array.replicate_succ, Array.replicate_zero, List.push_toArray, List.append_toArray, List.nil_append, List.cons_append]
  gi_wp2_with (first
    | (refine ⟨trivial, ?_⟩; gi_at_call 85; refine (callsIn_wide.2 (bitset_MayTable.calls k n _ _ l0 false _ (Kd.C_alloc (Kd.C_alloc HC.out _) _) hc0 HM.out)).mono ?_; rintro e w1 ⟨rfl, hb⟩
       have n2_ := Aside0.mk (blk_below KD.out hb); have n3_ := Aside0.mk (below_step HB.out hb)
       clear KA KD HB hb
       have KD := n2_; have HB := n3_
       clear n2_ n3_
       have q0 := (blk_cell KD.out 0).trans rfl; have q1 := (blk_cell KD.out 1).trans rfl; have z0 := blk_frozen KD.out 0; have z1 := blk_frozen KD.out 1))
  obtain ⟨X, hX⟩ : ∃ X, (World.setCell w1 ⟨w.heap.size + 1, 0, none⟩ (Value.int IntKind.i64 0)).setCell ⟨w.heap.size + 1, 1, none⟩ (Value.slice none 0 0) = X := ⟨_, rfl⟩
  have hXg : X.heap[w.heap.size + 1]? = some (.cells #[.int .i64 0, Value.slice none 0 0] 56 (0, 0)) := hX ▸ blk_put (blk_put KD.out 0 (Value.int IntKind.i64 0) rfl) 1 (Value.slice none 0 0) rfl
  have hXB := wb (g := w.heap.size + 1) hX.symm HB.out (by omega)
  try rw [hX]
  have c0 := (blk_cell hXg 0).trans rfl
  have c1 := (blk_cell hXg 1).trans rfl
  refine ⟨.tuple #[.agg #[.int .i64 0, .slice none 0 0], .int .i64 61], ?_, _, rfl, Kd.S_nil _ _ _ _ _, hXB⟩
  simp [results, Tryd.f42, go_sem, c0, c1]
instance instDecWd (x : Int) : Decidable (Wd x) := inferInstanceAs (Decidable (0 ≤ x ∧ x < 18446744073709551616))
instance instDecWds (ws : List Int) : Decidable (Wds ws) := inferInstanceAs (Decidable (∀ x ∈ ws, Wd x))
instance instDecGoods (l : List S24) : Decidable (Goods l) := inferInstanceAs (Decidable (∀ x ∈ l, Wds x.f1 ∧ x.f1.length ≤ 9223372036854775807))
def bitset_Turn.f (k : Nat) (a0_0 : Int) (l0_1 : List S24) : Option (Int × List S24 × Int) :=
  if Goods l0_1 ∧ l0_1.length ≤ 9223372036854775807 then (bitset_MayTable.f k a0_0 l0_1).bind fun b => if b = true then (bitset_blanks.f k (l0_1.length : Int) a0_0).bind fun t => some (t.1, turnA 0 l0_1 t.2, 0) else some (0, [], 61) else none
theorem Ev.eq {α : Type} {g : Nat → Option α} {a b : α} (h : Ev g a) (k : Ev g b) : a = b := by
  obtain ⟨K, h⟩ := h
  obtain ⟨L, k⟩ := k
  have := (h (max K L) (Nat.le_max_left _ _)).symm.trans (k _ (Nat.le_max_right _ _))
  injection this
theorem bitset_Turn.mono : ∀ a0_0 l0_1 k, LeO (bitset_Turn.f k a0_0 l0_1) (bitset_Turn.f (k + 1) a0_0 l0_1) := by
  intro a l k
  unfold bitset_Turn.f
  split
  · exact LeO.bind (bitset_MayTable.mono _ _ _) fun b => LeO.ite (LeO.bind (bitset_blanks.mono _ _ _) fun t => LeO.refl _) (LeO.refl _)
  · exact LeO.none _
theorem MayTable_is {k : Nat} {n : Int} {l : List S24} {b : Bool} (hg : Goods l) (hl : l.length ≤ 9223372036854775807) (h : bitset_MayTable.f k n l = some b) : b = tabp n l :=
  Ev.eq (Ev.of (bitset_MayTable.mono _ _) h) (MayTable_eq _ _ hl hg)
theorem bitset_Turn.calls (k : Nat) (a0_0 : Int) (A0_1 : Option Addr) (c0_1 : Nat) (l0_1 : List (S24)) (r1 : Int) (r2 : List (S24)) (r3 : Int) (w : World) (hr0_1 : Kd.C k24 w A0_1 l0_1.length l0_1) (hc0_1 : l0_1.length ≤ c0_1) (hG : Tz w) (h : bitset_Turn.f k a0_0 l0_1 = some (r1, r2, r3)) :
    Calls Tryd.prog 42 #[.agg #[.int .i64 a0_0, .slice A0_1 l0_1.length c0_1]] w fun e w' => ∃ v1_ : Value, e = .returned (.tuple #[.agg #[.int .i64 r1, v1_], .int .i64 r3]) ∧ Kd.S k24 24 w' w.heap.size (fun _ => True) v1_ r2 ∧ Below w.heap.size w w' := by
  unfold bitset_Turn.f at h
  by_cases hg : Goods l0_1 ∧ l0_1.length ≤ 9223372036854775807
  · rw [if_pos hg] at h
    obtain ⟨b, hM, h⟩ := Option.bind_eq_some_iff.1 h
    cases b with
    | true =>
      have hT : TabP a0_0 l0_1 := tabp_true.1 (MayTable_is hg.1 hg.2 hM).symm
      rw [if_pos rfl] at h
      obtain ⟨t, hBl, h⟩ := Option.bind_eq_some_iff.1 h
      obtain ⟨n, rfl⟩ := Int.eq_ofNat_of_zero_le hT.1
      obtain ⟨rows, hR, hE⟩ := blanks_ev (m := l0_1.length) (n := n) hT.2.2.1 (by have := hT.2.1; omega)
      have ht := Ev.eq (Ev.of (bitset_blanks.mono _ _) hBl) hE
      subst ht
      simp only [Option.some.injEq, Prod.mk.injEq] at h
      obtain ⟨rfl, rfl, rfl⟩ := h
      exact Turn_yes k n A0_1 c0_1 l0_1 rows w hr0_1 hc0_1 hG hT hg.1 hM hBl hR.rok
    | false =>
      rw [if_neg (by decide)] at h
      cases h
      exact Turn_no k a0_0 A0_1 c0_1 l0_1 w hr0_1 hc0_1 hM
  · rw [if_neg hg] at h; cases h
theorem Turn_none {n : Int} {l : List S24} (hg : Goods l) (hl : l.length ≤ 9223372036854775807) (h : ¬ TabP n l) : Ev (fun k => bitset_Turn.f k n l) (0, [], 61) := by
  obtain ⟨K, hM⟩ := MayTable_eq n l hl hg
  refine ⟨K, fun k hk => ?_⟩
  show bitset_Turn.f k n l = _
  unfold bitset_Turn.f
  have := hM k hk
  simp only at this
  rw [if_pos ⟨hg, hl⟩, this, tabp_false.2 h]
  rfl
theorem Turn_rows {n m : Nat} (hn : n ≤ 4096) (hm : m ≤ 4096) {p : Nat → Nat → Bool} {l : List S24} (hR : RowsAre n m p l) : ∃ rows, RowsAre m n (fun x j => p j x) rows ∧ Ev (fun k => bitset_Turn.f k (m : Int) l) ((n : Int), rows, 0) := by
  obtain ⟨hT, hg⟩ := hR.tab hn hm
  have hl : l.length ≤ 9223372036854775807 := by rw [hR.1]; omega
  obtain ⟨K, hM⟩ := MayTable_eq (m : Int) l hl hg
  obtain ⟨rows, hB, L, hE⟩ := blanks_ev (m := l.length) (n := m) (by rw [hR.1]; exact hn) hm
  refine ⟨turnA 0 l rows, ?_, K + L, fun k hk => ?_⟩
  · have h1 := RowsAre.turnA (n := m) l 0 hB (by omega) (fun s hs => by
      have h2 := hT.2.2.2 s hs
      have h3 := h2.1
      unfold MayS at h3
      rwa [h2.2] at h3)
    rw [hR.1] at h1
    refine h1.congr fun x hx j hj => ?_
    have hj' : j < l.length := by rw [hR.1]; exact hj
    have e : l.getD j ⟨0, []⟩ = l[j] := by simp [List.getD_eq_getElem?_getD, List.getElem?_eq_getElem hj']
    have h4 := (hR.2 j hj').2.has x
    simp only [Bool.false_or, Nat.zero_le, decide_true, Bool.true_and, Nat.sub_zero]
    rw [e, h4]
    simp [hx]
  · show bitset_Turn.f k (m : Int) l = _
    unfold bitset_Turn.f
    have h1 := hM k (by omega)
    have h2 := hE k (by omega)
    simp only at h1 h2
    rw [if_pos ⟨hg, hl⟩, h1, tabp_true.2 hT, Option.bind_some, if_pos rfl, h2, Option.bind_some, hR.1]
end Go.Proofs.YtjmkhdhffmlhiaaDoor.PAll
end
section
namespace Go.Proofs.YtjmkhdhffmlhiaaDoor.PAll
set_option linter.unusedVariables false
open Go.Proofs.YtjmkhdhffmlhiaaDoorW.PrintWords Go.Proofs.YtjmkhdhffmlhiaaDoorW.PrintLast
end Go.Proofs.YtjmkhdhffmlhiaaDoor.PAll
end
section
namespace Go.Proofs.YtjmkhdhffmlhiaaDoor.PAll
open Go.RowKit Go.Proofs.YtjmkhdhffmlhiaaDoorW.PrintWords Go.Proofs.YtjmkhdhffmlhiaaDoorW.PrintLast Go.Proofs.YtjmkhdhffmlhiaaDoorW.PrintMore
attribute [local go_sem] max2_int min2_int max_two min_two max_three min_three max_four min_four w64_u8 w64_mod256   -- for this text's walks alone
set_option linter.unusedVariables false
set_option linter.unusedSimpArgs false
end Go.Proofs.YtjmkhdhffmlhiaaDoor.PAll
end
section
namespace Go.Proofs.YtjmkhdhffmlhiaaDoor.PAll
open Go.RowKit Go.Proofs.YtjmkhdhffmlhiaaDoorW.PrintWords Go.Proofs.YtjmkhdhffmlhiaaDoorW.PrintLast Go.Proofs.YtjmkhdhffmlhiaaDoorW.PrintMore
attribute [local go_sem] max2_int min2_int max_two min_two max_three min_three max_four min_four w64_u8 w64_mod256   -- for this text's walks alone
set_option linter.unusedVariables false
set_option linter.unusedSimpArgs false
end Go.Proofs.YtjmkhdhffmlhiaaDoor.PAll
end
section
namespace Go.Proofs.YtjmkhdhffmlhiaaDoor.PAll
open Go.RowKit Go.Proofs.YtjmkhdhffmlhiaaDoorW.PrintWords Go.Proofs.YtjmkhdhffmlhiaaDoorW.PrintLast Go.Proofs.YtjmkhdhffmlhiaaDoorW.PrintMore
attribute [local go_sem] max2_int min2_int max_two min_two max_three min_three max_four min_four w64_u8 w64_mod256   -- for this text's walks alone
set_option linter.unusedVariables false
set_option linter.unusedSimpArgs false
end Go.Proofs.YtjmkhdhffmlhiaaDoor.PAll
end
section
namespace Go.Proofs.YtjmkhdhffmlhiaaDoor.PAll
open Go.RowKit Go.Proofs.YtjmkhdhffmlhiaaDoorW.PrintWords Go.Proofs.YtjmkhdhffmlhiaaDoorW.PrintLast Go.Proofs.YtjmkhdhffmlhiaaDoorW.PrintMore
attribute [local go_sem] max2_int min2_int max_two min_two max_three min_three max_four min_four w64_u8 w64_mod256   -- for this text's walks alone
set_option linter.unusedVariables false
set_option linter.unusedSimpArgs false
end Go.Proofs.YtjmkhdhffmlhiaaDoor.PAll
end
section
namespace Go.Proofs.YtjmkhdhffmlhiaaDoor.PAll
open Go.RowKit Go.Proofs.YtjmkhdhffmlhiaaDoorW.PrintWords Go.Proofs.YtjmkhdhffmlhiaaDoorW.PrintLast Go.Proofs.YtjmkhdhffmlhiaaDoorW.PrintMore
def foldw (g : Int → Int → Int) (b ws : List Int) : Option (List Int) :=
  if ws.length ≤ b.length then some (List.zipWith g b ws ++ b.drop ws.length) else none
def folds (g : Int → Int → Int) : List Int → List S24 → Option (List Int)
  | b, [] => some b
  | b, s :: l => (foldw g b s.f1).bind fun c => folds g c l
theorem foldw_length {g : Int → Int → Int} {b ws c : List Int} (h : foldw g b ws = some c) : c.length = b.length := by
  unfold foldw at h
  split at h
  · cases h; simp; omega
  · cases h
def bitset_fold_or.f (a0_0 : Int) (l0_1 : List Int) (l1 : List S24) (_a2 : Unit) : Option (Int × List Int) := (folds (Go.bits .or .u64) l0_1 l1).map fun r => (a0_0, r)
def bitset_fold_andNot.f (a0_0 : Int) (l0_1 : List Int) (l1 : List S24) (_a2 : Unit) : Option (Int × List Int) := (folds (Go.bits .andNot .u64) l0_1 l1).map fun r => (a0_0, r)
end Go.Proofs.YtjmkhdhffmlhiaaDoor.PAll
end
section
namespace Go.Proofs.YtjmkhdhffmlhiaaDoor.PAll
set_option linter.unusedVariables false
set_option linter.unusedSimpArgs false
open Go.RowKit Go.Shelf Go.Proofs.YtjmkhdhffmlhiaaDoorW.PrintWords Go.Proofs.YtjmkhdhffmlhiaaDoorW.PrintLast Go.Proofs.YtjmkhdhffmlhiaaDoorW.PrintMore
attribute [local go_sem] Oper.semAt_some
def orw (b ws : List Int) : List Int := List.zipWith (Go.bits .or .u64) b ws ++ b.drop ws.length
theorem orw_eq {b ws : List Int} (h : ws.length ≤ b.length) : foldw (Go.bits .or .u64) b ws = some (orw b ws) := by unfold foldw orw; rw [if_pos h]
theorem orw_length {b ws : List Int} (h : ws.length ≤ b.length) : (orw b ws).length = b.length := foldw_length (orw_eq h)
def prodS (lb : List S24) (j : Nat) (rows : List S24) (e : Int) : List S24 := rows.set j ⟨(rd_T24 rows (j : Int)).f0, orw (rd_T24 rows (j : Int)).f1 (rd_T24 lb e).f1⟩
def prodA (lb : List S24) : Nat → List S24 → List S24 → List S24
  | _, [], rows => rows
  | j, s :: l, rows => prodA lb (j + 1) l ((els (64 * s.f1.length) s.f1).foldl (prodS lb j) rows)
theorem Rok.prod {n m j : Nat} {lb rows : List S24} (h : Rok n m rows) (hj : j < n) (hb : ∀ s ∈ lb, s.f1.length = (m + 63) / 64) {x : Int} (h0 : 0 ≤ x) (h1 : x < lb.length) : Rok n m (prodS lb j rows x) := by
  obtain ⟨e, rfl⟩ := Int.eq_ofNat_of_zero_le h0
  have he : e < lb.length := by omega
  have hjl : j < rows.length := by rw [h.1]; exact hj
  refine ⟨by unfold prodS; rw [List.length_set, h.1], fun r hr => ?_⟩
  unfold prodS at hr
  rcases List.mem_or_eq_of_mem_set hr with hr | rfl
  · exact h.2 r hr
  · rw [rdT_nat rows hjl, rdT_nat lb he]
    have a1 := h.2 _ (List.getElem_mem hjl)
    have a2 := hb _ (List.getElem_mem he)
    simp only
    rw [orw_length (by omega)]
    exact a1
theorem Rok.prods {n m j : Nat} {lb : List S24} (hj : j < n) (hb : ∀ s ∈ lb, s.f1.length = (m + 63) / 64) : ∀ (xs : List Int) {rows : List S24}, Rok n m rows → (∀ x ∈ xs, 0 ≤ x ∧ x < lb.length) → Rok n m (xs.foldl (prodS lb j) rows)
  | [], _, h, _ => h
  | x :: xs, _, h, hx => Rok.prods hj hb xs (h.prod hj hb (hx x List.mem_cons_self).1 (hx x List.mem_cons_self).2) (fun y hy => hx y (List.mem_cons_of_mem _ hy))
end Go.Proofs.YtjmkhdhffmlhiaaDoor.PAll
end
section
namespace Go.Proofs.YtjmkhdhffmlhiaaDoor.PAll
set_option linter.unusedVariables false
set_option linter.unusedSimpArgs false
open Go.RowKit Go.Shelf Go.Proofs.YtjmkhdhffmlhiaaDoorW.PrintWords Go.Proofs.YtjmkhdhffmlhiaaDoorW.PrintLast Go.Proofs.YtjmkhdhffmlhiaaDoorW.PrintMore
attribute [local go_sem] Oper.semAt_some
end Go.Proofs.YtjmkhdhffmlhiaaDoor.PAll
end
section
namespace Go.Proofs.YtjmkhdhffmlhiaaDoor.PAll
open Go.RowKit Go.Proofs.YtjmkhdhffmlhiaaDoorW.PrintWords Go.Proofs.YtjmkhdhffmlhiaaDoorW.PrintMore
structure Bitly (g : Int → Int → Int) (f : Bool → Bool → Bool) : Prop where
  wd : ∀ a b, Wd a → Wd b → Wd (g a b)
  tb : ∀ a b j, Wd a → Wd b → tb (g a b) j = f (tb a j) (tb b j)
  ff : f false false = false
theorem bitly_or : Bitly (Go.bits .or .u64) (fun a b => a || b) := ⟨fun a b _ _ => (or_eq a b).2, fun _ _ j ha hb => tb_or ha hb j, rfl⟩
theorem hb_zip {g : Int → Int → Int} {f : Bool → Bool → Bool} (h : Bitly g f) {b ws : List Int} (hb' : Wds b) (hw : Wds ws) (hl : ws.length = b.length) (e : Nat) : hb (List.zipWith g b ws) e = f (hb b e) (hb ws e) := by
  rcases Nat.lt_or_ge (e / 64) b.length with h1 | h1
  · have h2 : (List.zipWith g b ws).getD (e / 64) 0 = g (b.getD (e / 64) 0) (ws.getD (e / 64) 0) := by
      rw [List.getD_eq_getElem?_getD, List.getD_eq_getElem?_getD, List.getD_eq_getElem?_getD, List.getElem?_zipWith, List.getElem?_eq_getElem h1, List.getElem?_eq_getElem (by omega)]
      rfl
    unfold hb
    rw [h2, h.tb _ _ _ (hb'.getD _) (hw.getD _)]
  · rw [hb_high (ws := b) (by omega), hb_high (ws := ws) (by omega), hb_high (by rw [List.length_zipWith]; omega), h.ff]
theorem zip_Wds {g : Int → Int → Int} {f : Bool → Bool → Bool} (h : Bitly g f) {b ws : List Int} (hb' : Wds b) (hw : Wds ws) : Wds (List.zipWith g b ws) := by
  intro x hx
  obtain ⟨i, hi, rfl⟩ := List.getElem_of_mem hx
  rw [List.getElem_zipWith]
  rw [List.length_zipWith] at hi
  exact h.wd _ _ (hb' _ (List.getElem_mem _)) (hw _ (List.getElem_mem _))
theorem foldw_is {g : Int → Int → Int} {f : Bool → Bool → Bool} (h : Bitly g f) {n : Nat} {p q : Nat → Bool} {b ws : List Int} (hb' : Is n p b) (hw : Is n q ws) : ∃ c, foldw g b ws = some c ∧ Is n (fun d => f (p d) (q d)) c := by
  have hl : ws.length = b.length := by rw [hw.len, hb'.len]
  refine ⟨List.zipWith g b ws, ?_, ?_, zip_Wds h hb'.wds hw.wds, fun e => ?_⟩
  · unfold foldw
    rw [if_pos (by omega), List.drop_eq_nil_of_le (by omega), List.append_nil]
  · rw [List.length_zipWith, hl, Nat.min_self, hb'.len]
  · rw [hb_zip h hb'.wds hw.wds hl, hb'.has, hw.has]
    by_cases he : e < n
    · simp [he]
    · simp [he, h.ff]
end Go.Proofs.YtjmkhdhffmlhiaaDoor.PAll
end
section
namespace Go.Proofs.YtjmkhdhffmlhiaaDoor.PAll
set_option linter.unusedVariables false
set_option linter.unusedSimpArgs false
open Go.RowKit Go.Shelf Go.Proofs.YtjmkhdhffmlhiaaDoorW.PrintWords Go.Proofs.YtjmkhdhffmlhiaaDoorW.PrintLast Go.Proofs.YtjmkhdhffmlhiaaDoorW.PrintMore
attribute [local go_sem] Oper.semAt_some
def bitset_Product.f (k : Nat) (a0_0 : Int) (l0_1 : List S24) (a1_0 : Int) (l1_1 : List S24) : Option (Int × List S24 × Int) :=
  if (Goods l0_1 ∧ l0_1.length ≤ 9223372036854775807) ∧ (Goods l1_1 ∧ l1_1.length ≤ 9223372036854775807) then (bitset_MayTable.f k a0_0 l0_1).bind fun b => if b = true then (bitset_MayTable.f k a1_0 l1_1).bind fun b2 => if b2 = true then
    if a0_0 = (l1_1.length : Int) then (bitset_blanks.f k a1_0 (l0_1.length : Int)).bind fun t => some (t.1, prodA l1_1 0 l0_1 t.2, 0) else some (0, [], 60) else some (0, [], 61) else some (0, [], 61) else none
theorem orw_is {n : Nat} {p q : Nat → Bool} {b ws : List Int} (hb' : Is n p b) (hw : Is n q ws) : Is n (fun d => p d || q d) (orw b ws) := by
  have hl : ws.length ≤ b.length := by rw [hw.len, hb'.len]; exact Nat.le_refl _
  obtain ⟨c, hc, hi⟩ := foldw_is bitly_or hb' hw
  rw [orw_eq hl] at hc
  cases hc
  exact hi
theorem RowsAre.prod {n m r : Nat} {p q : Nat → Nat → Bool} {lb rows : List S24} (hb' : RowsAre r m q lb) (h : RowsAre n m p rows) {j : Nat} (hj : j < n) {e : Nat} (he : e < r) : RowsAre n m (fun x d => p x d || (decide (x = j) && q e d)) (prodS lb j rows (e : Int)) := by
  have hjl : j < rows.length := by rw [h.1]; exact hj
  have hel : e < lb.length := by rw [hb'.1]; exact he
  unfold prodS
  rw [rdT_nat rows hjl, rdT_nat lb hel]
  obtain ⟨a1, a2⟩ := h.2 j hjl
  refine (h.set _ a1 (orw_is a2 (hb'.2 e hel).2)).congr fun x _ d _ => ?_
  by_cases hx : x = j
  · subst hx; simp
  · simp [hx]
theorem RowsAre.prods {n m r : Nat} {q : Nat → Nat → Bool} {lb : List S24} (hb' : RowsAre r m q lb) {j : Nat} (hj : j < n) : ∀ (xs : List Int) {p : Nat → Nat → Bool} {rows : List S24}, RowsAre n m p rows → (∀ z ∈ xs, 0 ≤ z ∧ z < r) → RowsAre n m (fun x d => p x d || (decide (x = j) && xs.any (fun z => q z.toNat d))) (xs.foldl (prodS lb j) rows)
  | [], p, rows, h, _ => h.congr fun x _ d _ => by simp
  | z :: xs, p, rows, h, hz => by
    obtain ⟨y, rfl⟩ := Int.eq_ofNat_of_zero_le (hz z List.mem_cons_self).1
    have hy : y < r := by have := (hz _ List.mem_cons_self).2; omega
    refine (RowsAre.prods hb' hj xs (RowsAre.prod hb' h hj hy) (fun z h => hz z (List.mem_cons_of_mem _ h))).congr fun x _ d _ => ?_
    simp only [List.any_cons, Int.toNat_natCast]
    generalize p x d = a1
    generalize decide (x = j) = a2
    generalize q y d = a3
    generalize xs.any (fun z => q z.toNat d) = a4
    revert a1 a2 a3 a4
    decide
theorem els_any {r : Nat} {ws : List Int} (hM : MayP (r : Int) ws) (f : Nat → Bool) : (els (64 * ws.length) ws).any (fun z => f z.toNat) = (List.range r).any fun e => hb ws e && f e := by
  rw [Bool.eq_iff_iff, List.any_eq_true, List.any_eq_true]
  constructor
  · rintro ⟨z, hz, h⟩
    obtain ⟨j, _, j2, rfl⟩ := mem_els.1 hz
    have hj : j < r := by have := (els_in hM hz).2; omega
    exact ⟨j, List.mem_range.2 hj, by rw [j2]; simpa using h⟩
  · rintro ⟨e, he, h⟩
    rw [Bool.and_eq_true] at h
    exact ⟨(e : Int), mem_els.2 ⟨e, Nat.lt_of_not_le (fun hle => by rw [hb_high hle] at h; cases h.1), h.1, rfl⟩, by simpa using h.2⟩
theorem RowsAre.prodA {n m r : Nat} {q : Nat → Nat → Bool} {lb : List S24} (hb' : RowsAre r m q lb) : ∀ (l : List S24) (i : Nat) {p : Nat → Nat → Bool} {rows : List S24}, RowsAre n m p rows → i + l.length ≤ n → (∀ s ∈ l, MayP (r : Int) s.f1) → RowsAre n m (fun x d => p x d || (decide (i ≤ x) && (List.range r).any fun e => hb (l.getD (x - i) ⟨0, []⟩).f1 e && q e d)) (prodA lb i l rows)
  | [], i, p, rows, h, _, _ => h.congr fun x _ d _ => by simp [hb_high]
  | s :: l, i, p, rows, h, hi, hm => by
    simp only [List.length_cons] at hi
    have h1 := RowsAre.prods hb' (j := i) (by omega) (els (64 * s.f1.length) s.f1) h (fun z hz => els_in (hm s List.mem_cons_self) hz)
    refine (RowsAre.prodA hb' l (i + 1) h1 (by omega) (fun s hs => hm s (List.mem_cons_of_mem _ hs))).congr fun x _ d _ => ?_
    rw [els_any (hm s List.mem_cons_self) (fun e => q e d)]
    by_cases hx : x = i
    · subst hx
      have e1 : ¬ (x + 1 ≤ x) := by omega
      have e2 : x - x = 0 := by omega
      rw [e2]
      simp only [e1, Nat.le_refl, List.getD_cons_zero, decide_true, decide_false, Bool.true_and, Bool.false_and, Bool.or_false]
    · by_cases hix : i ≤ x
      · have h2 : i + 1 ≤ x := by omega
        obtain ⟨c, rfl⟩ : ∃ c, x = i + 1 + c := ⟨x - (i + 1), by omega⟩
        have e1 : i + 1 + c - (i + 1) = c := by omega
        have e2 : i + 1 + c - i = c + 1 := by omega
        rw [e1, e2]
        simp [hx, hix]
      · have h2 : ¬ i + 1 ≤ x := by omega
        simp [hx, hix, h2]
end Go.Proofs.YtjmkhdhffmlhiaaDoor.PAll
end
section
namespace Go.Proofs.YtjmkhdhffmlhiaaDoor.PAll
open Go.RowKit Go.Proofs.YtjmkhdhffmlhiaaDoorW.PrintWords Go.Proofs.YtjmkhdhffmlhiaaDoorW.PrintLast Go.Proofs.YtjmkhdhffmlhiaaDoorW.PrintMore
attribute [local go_sem] max2_int min2_int max_two min_two max_three min_three max_four min_four w64_u8 w64_mod256   -- for this text's walks alone
set_option linter.unusedVariables false
set_option linter.unusedSimpArgs false
end Go.Proofs.YtjmkhdhffmlhiaaDoor.PAll
end
section
namespace Go.Proofs.YtjmkhdhffmlhiaaDoor.PAll
set_option linter.unusedVariables false
open Go.RowKit Go.Shelf Go.Proofs.YtjmkhdhffmlhiaaDoorW.PrintWords Go.Proofs.YtjmkhdhffmlhiaaDoorW.PrintLast Go.Proofs.YtjmkhdhffmlhiaaDoorW.PrintMore
def bothS (j : Nat) (rows : List S24) (s : S24) : List S24 := rows.set j ⟨(rd_T24 rows (j : Int)).f0, orw (rd_T24 rows (j : Int)).f1 s.f1⟩
def bothA : Nat → List S24 → List S24 → List S24
  | _, [], rows => rows
  | j, s :: l, rows => bothA (j + 1) l (bothS j rows s)
def bitset_Both.f (k : Nat) (a0_0 : Int) (l0_1 : List S24) : Option (Int × List S24 × Int) :=
  if Goods l0_1 ∧ l0_1.length ≤ 9223372036854775807 then (bitset_MayTable.f k a0_0 l0_1).bind fun b => if b = true then
    if a0_0 = (l0_1.length : Int) then (bitset_Turn.f k a0_0 l0_1).bind fun t => some (t.1, bothA 0 l0_1 t.2.1, 0) else some (0, [], 60) else some (0, [], 61) else none
theorem bitset_Both.mono : ∀ a0_0 l0_1 k, LeO (bitset_Both.f k a0_0 l0_1) (bitset_Both.f (k + 1) a0_0 l0_1) := by
  intro a l k
  unfold bitset_Both.f
  split
  · exact LeO.bind (bitset_MayTable.mono _ _ _) fun b => LeO.ite (LeO.ite (LeO.bind (bitset_Turn.mono _ _ _) fun t => LeO.refl _) (LeO.refl _)) (LeO.refl _)
  · exact LeO.none _
theorem RowsAre.both {n m : Nat} {p : Nat → Nat → Bool} {rows : List S24} (h : RowsAre n m p rows) {j : Nat} (hj : j < n) {s : S24} {q : Nat → Bool} (hs : Is m q s.f1) : RowsAre n m (fun x d => p x d || (decide (x = j) && q d)) (bothS j rows s) := by
  have hjl : j < rows.length := by rw [h.1]; exact hj
  unfold bothS
  rw [rdT_nat rows hjl]
  obtain ⟨a1, a2⟩ := h.2 j hjl
  refine (h.set _ a1 (orw_is a2 hs)).congr fun x _ d _ => ?_
  by_cases hx : x = j
  · subst hx; simp
  · simp [hx]
theorem RowsAre.bothA {n m : Nat} : ∀ (l : List S24) (i : Nat) {p : Nat → Nat → Bool} {rows : List S24}, RowsAre n m p rows → i + l.length ≤ n → (∀ s ∈ l, MayP (m : Int) s.f1 ∧ Wds s.f1) → RowsAre n m (fun x d => p x d || (decide (i ≤ x) && hb (l.getD (x - i) ⟨0, []⟩).f1 d)) (bothA i l rows)
  | [], i, p, rows, h, _, _ => h.congr fun x _ d _ => by simp [hb_high]
  | s :: l, i, p, rows, h, hi, hm => by
    simp only [List.length_cons] at hi
    have hs := hm s List.mem_cons_self
    have h1 := h.both (j := i) (by omega) (s := s) (q := hb s.f1) (by have := hs.1.is hs.2; rwa [Int.toNat_natCast] at this)
    refine (RowsAre.bothA l (i + 1) h1 (by omega) (fun s hs => hm s (List.mem_cons_of_mem _ hs))).congr fun x _ d _ => ?_
    by_cases hx : x = i
    · subst hx
      have e1 : ¬ (x + 1 ≤ x) := by omega
      have e2 : x - x = 0 := by omega
      rw [e2]
      simp only [e1, Nat.le_refl, List.getD_cons_zero, decide_true, decide_false, Bool.true_and, Bool.false_and, Bool.or_false]
    · by_cases hix : i ≤ x
      · have h2 : i + 1 ≤ x := by omega
        obtain ⟨c, rfl⟩ : ∃ c, x = i + 1 + c := ⟨x - (i + 1), by omega⟩
        have e1 : i + 1 + c - (i + 1) = c := by omega
        have e2 : i + 1 + c - i = c + 1 := by omega
        rw [e1, e2]
        simp [hx, hix]
      · have h2 : ¬ i + 1 ≤ x := by omega
        simp [hx, hix, h2]
end Go.Proofs.YtjmkhdhffmlhiaaDoor.PAll
end
section
namespace Go.Proofs.YtjmkhdhffmlhiaaDoor.PAll
set_option linter.unusedVariables false
open Go.RowKit Go.Shelf Go.Proofs.YtjmkhdhffmlhiaaDoorW.PrintWords Go.Proofs.YtjmkhdhffmlhiaaDoorW.PrintLast Go.Proofs.YtjmkhdhffmlhiaaDoorW.PrintMore
theorem put_words (g cap n base : Nat) (ok : Nat → Prop) : ∀ (ys : List Int) (o : Nat) (xs : List Int) (W : World), Kd.R (Kd.int .u64) 87 W base ok (.slice (some ⟨g, 0, none⟩) n cap) xs → o + ys.length ≤ xs.length →
    Kd.R (Kd.int .u64) 87 (W.setCells g o (ys.map (.int .u64))) base ok (.slice (some ⟨g, 0, none⟩) n cap) (xs.take o ++ ys ++ xs.drop (o + ys.length)) ∧ Kept W (W.setCells g o (ys.map (.int .u64))) (fun k => k = g) ∧ KeepsOthers W (W.setCells g o (ys.map (.int .u64))) ∧ ∀ B w0, Below B w0 W → B ≤ g → Below B w0 (W.setCells g o (ys.map (.int .u64)))
  | [], o, xs, W, h, hl => by
    refine ⟨?_, Kept.refl _ _, KeepsOthers.refl _, fun _ _ h _ => h⟩
    have e : xs.take o ++ [] ++ xs.drop (o + ([] : List Int).length) = xs := by simp
    rw [e]
    exact h
  | y :: ys, o, xs, W, h, hl => by
    simp only [List.length_cons] at hl
    have h1 := Kd.R_putn h (o : Int) y
    rw [Int.toNat_natCast] at h1
    obtain ⟨a1, a2, a3, a4⟩ := put_words g cap n base ok ys (o + 1) (xs.set o y) (W.setCell ⟨g, o, none⟩ (.int .u64 y)) h1 (by rw [List.length_set]; omega)
    have ho : o < xs.length := by omega
    have e : (xs.set o y).take (o + 1) ++ ys ++ (xs.set o y).drop (o + 1 + ys.length) = xs.take o ++ (y :: ys) ++ xs.drop (o + (ys.length + 1)) := by
      rw [List.take_add_one, List.take_set_of_le (by omega), List.drop_set_of_lt (by omega)]
      simp [ho, Nat.add_assoc, Nat.add_comm 1]
    rw [e] at a1
    refine ⟨a1, ⟨?_, fun k hk hn => ?_⟩, (KeepsOthers.setCell _ _ _).trans a3, fun B w0 hB hg => a4 B w0 (hB.setCell hg _) hg⟩
    · have := a2.1; rw [World.size_setCell] at this; exact this
    · have := a2.2 k (by rw [World.size_setCell]; exact hk) hn
      exact this.trans (Below.heap_setCell _ _ _ _ hn)
set_option maxRecDepth 100000 in
theorem copy_words (W : World) (base : Nat) (ok : Nat → Prop) (v : Value) (xs ys : List Int) (A : Option Addr) (c : Nat) (hR : Kd.R (Kd.int .u64) 87 W base ok v xs) (hC : Kd.C (Kd.int .u64) W A ys.length ys) (hl : ys.length = xs.length) :
    ∃ W', (Builtin.copy_ #[22, 22] 3 #[v, .slice A ys.length c]).run Tryd.prog W = .ok (goInt ys.length) W' ∧ Kd.R (Kd.int .u64) 87 W' base ok v ys ∧ Kept W W' (fun k => some k = v.ownBlock) ∧ KeepsOthers W W' ∧ ∀ B w0, Below B w0 W → B ≤ base → Below B w0 W' := by
  have hi : (Tryd.prog.info? 87).map (·.size) = some 1 := by kernel_rfl
  by_cases h0 : ys.length = 0
  · obtain ⟨A', c', rfl⟩ := Kd.R_slice hR
    have hx : xs = [] := List.length_eq_zero_iff.1 (by omega)
    have hy : ys = [] := List.length_eq_zero_iff.1 h0
    refine ⟨W, ?_, ?_, Kept.refl _ _, KeepsOthers.refl _, fun _ _ h _ => h⟩
    · rw [h0]
      exact run_copy_none W _ _ _ _ A' A _ c' 0 c Tryd.underlying22 hi (by simp)
    · rw [hy, ← hx]; exact hR
  · obtain ⟨g, cap, rfl, hgb, hgl, cells, hcells⟩ := Kd.R_form hR (by omega)
    obtain ⟨ad, hA, _⟩ := Kd.at_int hC 0 (by decide) (by omega)
    subst hA
    obtain ⟨a1, a2, a3, a4⟩ := put_words g cap xs.length base ok ys 0 xs W hR (by omega)
    refine ⟨_, ?_, ?_, ⟨a2.1, fun k hk hn => a2.2 k hk (fun e => hn (by rw [e]; rfl))⟩, a3, fun B w0 hB hb => a4 B w0 hB (Nat.le_trans hb hgb)⟩
    · have := run_copy_cells (P := Tryd.prog) W 22 22 3 87 g 0 xs.length cap ad ys.length c (ys.map (.int .u64)) Tryd.underlying22 hi (by rw [List.length_map, hl]; exact (Nat.min_self _).symm)
        (fun j u hu => by
          rw [List.getElem?_map] at hu
          obtain ⟨y, hy, rfl⟩ := Option.map_eq_some_iff.1 hu
          obtain ⟨hj, hy2⟩ := List.getElem?_eq_some_iff.1 hy
          obtain ⟨ad', e1, e2⟩ := Kd.at_int hC (j : Int) (by omega) (by omega)
          injection e1 with e1
          subst e1
          rw [Int.toNat_natCast, rd_nat] at e2
          rw [e2, List.getD_eq_getElem?_getD, hy]
          rfl)
        (fun j hj => by
          rw [List.length_map] at hj
          have := (Kd.R_celln (0 : Int) hR (j : Int) (by omega) (by omega)).1
          rw [Int.toNat_natCast] at this
          rw [Nat.zero_add, this]; rfl)
        (fun j hj => by
          rw [List.length_map] at hj
          have := (Kd.R_celln (0 : Int) hR (j : Int) (by omega) (by omega)).2
          rw [Int.toNat_natCast] at this
          rw [Nat.zero_add, this])
        (fun u hu => by
          obtain ⟨y, _, rfl⟩ := List.mem_map.1 hu
          rfl)
      rw [List.length_map] at this
      exact this
    · have e : xs.take 0 ++ ys ++ xs.drop (0 + ys.length) = ys := by
        rw [List.take_zero, List.nil_append, List.drop_of_length_le (by omega), List.append_nil]
      rw [e] at a1
      exact a1
theorem copy_row (rows : List S24) (j : Nat) (w0 W : World) (ok : Nat → Prop) (g cap : Nat) (hB : Below w0.heap.size w0 W) (hS : Kd.S k24 24 W w0.heap.size ok (.slice (some ⟨g, 0, none⟩) rows.length cap) rows) (hj : j < rows.length) (ys : List Int) (A1 : Option Addr) (c1 : Nat)
    (hx : Kd.C (Kd.int .u64) W A1 ys.length ys) (hl : ys.length = (rd_T24 rows (j : Int)).f1.length) :
    ∃ v W', W.cell? ⟨g, j * 2 + 1, none⟩ = some v ∧ (Builtin.copy_ #[22, 22] 3 #[v, .slice A1 ys.length c1]).run Tryd.prog W = .ok (goInt ys.length) W' ∧
        Kd.S k24 24 W' w0.heap.size ok (.slice (some ⟨g, 0, none⟩) rows.length cap) (rows.set j ⟨(rd_T24 rows (j : Int)).f0, ys⟩) ∧ Below w0.heap.size w0 W' ∧ Kept W W' ok := by
  obtain ⟨oki, c, hcl, hM, hcc, hfr, hoki, hH⟩ := Kd.S_elem hS (rd_T24 rows (j : Int)) (j : Int) (by omega) (by omega)
  rw [Int.toNat_natCast] at hM hcc hfr
  have he : rows.getD j (rd_T24 rows (j : Int)) = rd_T24 rows (j : Int) := by rw [rdT_nat rows hj, List.getD_eq_getElem?_getD, List.getElem?_eq_getElem hj]; rfl
  rw [he] at hM
  obtain ⟨v, rfl, hR⟩ := k24_openM hM
  obtain ⟨W', hrun, hR', hK', hO', hBl⟩ := copy_words W w0.heap.size oki v _ ys A1 c1 hR hx hl
  refine ⟨v, W', hcc 1 _ rfl, hrun, ?_, hBl _ _ hB (Nat.le_refl _), ⟨hK'.1, fun k hk hn => hK'.2 k hk (fun h => hn (hoki k (hR.1 k h.symm)).1)⟩⟩
  have h2 := Kd.H_back (Kd.H_kept hH hK' (fun k _ h he => h (hR.1 k he.symm))) (k24_mkM W' w0.heap.size oki ⟨(rd_T24 rows (j : Int)).f0, ys⟩ hR') (fun _ h => h)
  rwa [Int.toNat_natCast] at h2
end Go.Proofs.YtjmkhdhffmlhiaaDoor.PAll
end
section
namespace Go.Proofs.YtjmkhdhffmlhiaaDoor.PAll
set_option linter.unusedVariables false
set_option linter.unusedSimpArgs false
open Go.RowKit Go.Shelf Go.Proofs.YtjmkhdhffmlhiaaDoorW.PrintWords Go.Proofs.YtjmkhdhffmlhiaaDoorW.PrintLast Go.Proofs.YtjmkhdhffmlhiaaDoorW.PrintMore
attribute [local go_sem] Oper.semAt_some
def makeS (j : Nat) (rows : List S24) (s : S24) : List S24 := rows.set j ⟨(rd_T24 rows (j : Int)).f0, s.f1⟩
def makeA : Nat → List S24 → List S24 → List S24
  | _, [], rows => rows
  | j, s :: l, rows => makeA (j + 1) l (makeS j rows s)
theorem Rok.make {n m j : Nat} {rows : List S24} (h : Rok n m rows) {s : S24} (hs : s.f1.length = (m + 63) / 64) : Rok n m (makeS j rows s) := by
  refine ⟨by unfold makeS; rw [List.length_set, h.1], fun r hr => ?_⟩
  unfold makeS at hr
  rcases List.mem_or_eq_of_mem_set hr with hr | rfl
  · exact h.2 r hr
  · exact hs
set_option maxHeartbeats 8000000 in
set_option maxRecDepth 100000 in
theorem MakeTable_yes (k n : Nat) (A0 : Option Addr) (c0 : Nat) (l0 rows : List S24) (w : World) (hr0 : Kd.C k24 w A0 l0.length l0) (hc0 : l0.length ≤ c0) (hT : TabP (n : Int) l0)
    (hM : bitset_fit.f k (n : Int) l0 = some 0) (hBl : bitset_blanks.f k (n : Int) (l0.length : Int) = some ((n : Int), rows)) (hRk : Rok l0.length n rows) :
    Calls Tryd.prog 48 #[.int .i64 n, .slice A0 l0.length c0] w fun e w' => ∃ v : Value, e = .returned (.tuple #[.agg #[.int .i64 (n : Int), v], .int .i64 0]) ∧ Kd.S k24 24 w' w.heap.size (fun _ => True) v (makeA 0 l0 rows) ∧ Below w.heap.size w w' := by
  have hu24 := Tryd.underlying24
  have hu56 := Tryd.underlying56
  have HC := Aside0.mk hr0
  have HM := Aside0.mk hM
  have HBl := Aside0.mk hBl
  clear hr0 hM hBl
  have hl4 : l0.length ≤ 4096 := hT.2.2.1
  have hn4 : n ≤ 4096 := by have := hT.2.1; omega
  obtain ⟨o2, ho2⟩ : ∃ o2 : Obj, o2 = .cells #[.int .i64 0, .slice none 0 0] 56 (0, 0) := ⟨_, rfl⟩
  have K1 : (w.alloc o2).heap[w.heap.size]? = some o2 := blk_new w o2
  have HB0 : Below w.heap.size w (w.alloc o2) := below_alloc (Below.refl _ _) _
  have hs3 : w.heap.size + 1 ≤ (w.alloc o2).heap.size := by rw [World.size_alloc]; omega
  rw [ho2] at K1 HB0 hs3
  clear ho2 o2
  have KD := Aside0.mk K1
  have HB := Aside0.mk HB0
  have HS3 := Aside0.mk hs3
  clear K1 HB0 hs3
  refine (callsIn_wide (n := 6)).1 ?_
  refine callsIn_of_wp Tryd.func48 rfl trivial ?_ rfl
  simp only [Tryd.ntmps48, List.size_toArray, List.length_cons, List.length_nil, Nat.reduceAdd, Nat.reduceSub, Array.replicate_succ, Array.replicate_zero, List.push_toArray, List.append_toArray, List.nil_append, List.cons_append]
  gi_wp2_with fail
  refine ⟨trivial, ?_⟩; gi_at_call 90
  refine (callsIn_wide.2 (bitset_fit.calls k n _ _ l0 0 _ (Kd.C_alloc HC.out _) hc0 HM.out)).mono ?_
  rintro e w1 ⟨rfl, hb⟩
  have n2_ := Aside0.mk (blk_below KD.out hb); have n3_ := Aside0.mk (below_step HB.out hb); have n4_ := Aside0.mk (Nat.le_trans HS3.out (below_size hb))
  clear KD HB hb HS3
  have KD := n2_; have HB := n3_; have HS3 := n4_
  clear n2_ n3_ n4_
  have hgt : ¬ ((4096 : Int) < (l0.length : Int)) := by omega
  gi_wp2_with fail
  refine ⟨trivial, ?_⟩; gi_at_call 86
  refine (callsIn_wide.2 (bitset_blanks.calls k n l0.length n rows _ HBl.out)).mono ?_
  rintro e w2 ⟨vt, rfl, ho, hb⟩
  obtain ⟨At, ct, et⟩ := Kd.S_slice ho
  subst et
  have n2_ := Aside0.mk (blk_below KD.out hb); have n3_ := Aside0.mk (below_step HB.out hb)
  have HT := Aside0.mk (Kd.S_lower (Kd.S_mono (Kd.S_bound ho) (fun k_ hk_ => show w1.heap.size ≤ k_ ∧ k_ < w2.heap.size from ⟨hk_.2.1, hk_.2.2.1⟩)) (below_size HB.out))
  have HS2 := Aside0.mk (below_size hb)
  clear KD HB hb ho
  have KD := n2_; have HB := n3_
  clear n2_ n3_
  gi_wp2_with fail
  refine wpIn_loop (fun a W => ∃ (j : Nat) (rk : List S24) (u8 u9 u28 u29 u30 u31 u32 u33 u34 u35 u36 u37 u38 u39 u40 u41 : Value), a = { tmps := #[.int .i64 n, .slice A0 l0.length c0, undef, undef, .pointer (some ⟨w.heap.size, 0, none⟩), .int .i64 0, .int .i64 0, .pointer (some ⟨w2.heap.size, 0, none⟩), u8, u9, .int .i64 n, .slice A0 l0.length c0, .int .i64 0, .int .i64 0, .bool false, undef, undef, .slice A0 l0.length c0, .int .i64 l0.length, .bool (decide ((4096 : Int) < (l0.length : Int))), undef, .int .i64 n, .slice A0 l0.length c0, .int .i64 l0.length, .agg #[.int .i64 n, .slice At rows.length ct], .slice A0 l0.length c0, .int .i64 l0.length, .int .i64 j, u28, u29, u30, u31, u32, u33, u34, u35, u36, u37, u38, u39, u40, u41, undef], defers := [] } ∧ Aside0 (j ≤ l0.length) ∧ Aside0 (makeA j (l0.drop j) rk = makeA 0 l0 rows) ∧ Aside0 (Rok l0.length n rk) ∧
      Aside0 (W.heap[w.heap.size]? = some (.cells #[.int .i64 0, .slice none 0 0] 56 (0, 0))) ∧ Aside0 (W.heap[w2.heap.size]? = some (.cells #[.int .i64 n, .slice At rows.length ct] 56 (0, 0))) ∧
      Aside0 (Kd.S k24 24 W w.heap.size (fun k_ => w1.heap.size ≤ k_ ∧ k_ < w2.heap.size) (.slice At rows.length ct) rk) ∧ Aside0 (Below w.heap.size w W))
    (fun a _ => l0.length - (intOf (a.tmps.getD 27 undef)).toNat) ?start ?round
  case start =>
    exact ⟨0, rows, undef, undef, undef, undef, undef, undef, undef, undef, undef, undef, undef, undef, undef, undef, undef, undef, rfl, ⟨Nat.zero_le _⟩, ⟨rfl⟩, ⟨hRk⟩, ⟨blk_alloc KD.out _⟩, ⟨blk_new _ _⟩, ⟨Kd.S_alloc HT.out _⟩, ⟨below_alloc HB.out _⟩⟩
  case round =>
    clear KD HB HT
    rintro a wr ⟨j, rk, u8, u9, u28, u29, u30, u31, u32, u33, u34, u35, u36, u37, u38, u39, u40, u41, rfl, hj, hA, hRj, KD, KU, HT, HB⟩
    by_cases hlt : j < l0.length
    · obtain ⟨ad, A1, c1, eA, q0w, q1w, hlc, hC1⟩ := at_T24 HC.out (j : Int) (by omega) (by omega)
      subst eA
      simp only [Int.toNat_natCast] at q0w q1w
      obtain ⟨s, hs⟩ : ∃ s, rd_T24 l0 (j : Int) = s := ⟨_, rfl⟩
      have hsl : s = l0[j] := by rw [← hs, rdT_nat l0 hlt]
      rw [hs] at q0w q1w hlc hC1
      have hsm : MayP (n : Int) s.f1 ∧ s.f0 = (n : Int) := by
        have := hT.2.2.2 _ (List.getElem_mem hlt)
        rw [← hsl] at this
        refine ⟨?_, this.2⟩
        have h2 := this.1; unfold MayS at h2; rwa [this.2] at h2
      obtain ⟨s0, ws⟩ := s
      obtain rfl : s0 = (n : Int) := hsm.2
      simp only at q0w q1w hlc hC1 hsm
      have q0 := (HB.out.cell (World.block_lt_of_cell? w _ q0w)).trans q0w
      have q1 := (HB.out.cell (World.block_lt_of_cell? w _ q1w)).trans q1w
      have hd : decide (j < l0.length) = true := decide_eq_true hlt
      have HC1 := Aside0.mk hC1
      clear hC1 q0w q1w
      gi_wp2_with fail
      have hUr := blk_lt KU.out
      have hw12 : w.heap.size + 1 ≤ w1.heap.size := HS3.out
      have hwl : ws.length = (n + 63) / 64 := by simpa using hsm.1.2.2.1
      have KD4 := Aside0.mk (blk_drew (blk_alloc KD.out (.cells #[.int .i64 n, .slice A1 ws.length c1] 24 (0, 0))))
      have KU4 := Aside0.mk (blk_drew (blk_alloc KU.out (.cells #[.int .i64 n, .slice A1 ws.length c1] 24 (0, 0))))
      have KS4 := Aside0.mk (blk_drew (blk_new wr (.cells #[.int .i64 n, .slice A1 ws.length c1] 24 (0, 0))))
      have HT4 := Aside0.mk (Kd.S_drew (Kd.S_alloc HT.out (.cells #[.int .i64 n, .slice A1 ws.length c1] 24 (0, 0))))
      have HB4 := Aside0.mk (below_drew1 (below_alloc HB.out (.cells #[.int .i64 n, .slice A1 ws.length c1] 24 (0, 0))))
      have hjl : j < rk.length := by rw [hRj.out.1]; exact hlt
      obtain ⟨g, cap, ev, hgb, hgl, cells, hcells⟩ := Kd.S_form HT.out (by omega)
      injection ev with e1 e2 e3
      subst e1 e3
      have hT4 := HT4.out
      rw [e2] at hT4
      obtain ⟨v, W9, z1, hrun, hS9, hB9, hK9⟩ := copy_row rk j w _ _ g ct HB4.out hT4 hjl ws A1 c1 (Kd.C_below HC1.out HB4.out) (by rw [rdT_nat rk hjl, hRj.out.2 _ (List.getElem_mem hjl)]; exact hwl)
      have u1 := (blk_cell KU4.out 1).trans rfl
      rw [e2] at u1
      simp only [List.getElem?_toArray, List.getElem?_cons_zero, List.getElem?_cons_succ] at u1
      have hmx : Tryd.prog.follows .mixedOrders = true := by kernel_rfl
      have HE2 := Aside0.mk e2
      have HWL := Aside0.mk hwl
      have HRUN := Aside0.mk hrun
      clear e2 hwl hrun
      refine wpIn_wide.2 ?_
      refine start_ (n := 9) (S := fun w' => w'.cell? ⟨w2.heap.size, 1, none⟩ = some (.slice (some ⟨g, 0, none⟩) rk.length ct) ∧ w'.cell? ⟨wr.heap.size, 1, none⟩ = some (.slice A1 ws.length c1) ∧ w'.cell? ⟨g, j * 2 + 1, none⟩ = some v) (ds := [8]) #[false, false, false, false, false, false, false, false, false] hmx (by kernel_rfl) rfl ⟨u1, (blk_cell KS4.out 1).trans rfl, z1⟩ (fun hHeld => ?_)
      clear u1 z1
      generalize World.drew (wr.alloc (.cells #[.int .i64 n, .slice A1 ws.length c1] 24 (0, 0))) = W4 at KD4 KU4 KS4 HT4 HB4 hT4 hHeld HRUN hK9 ⊢
      refine pure_ (i := 0) (N := some 32) (v := ?_) (a' := ?_) #[true, false, false, false, false, false, false, false, false] rfl rfl (by kernel_rfl) (fun _ _ _ h => h) (Or.inl ⟨by rfl, ?_⟩) ?_ ?_
      rotate_left
      · intro w'
        go_simp
        with_reducible rfl
      rotate_left
      · simp only [Act.put, List.setIfInBounds_toArray, List.set_cons_zero, List.set_cons_succ, i64_w, i32_w]
        rfl
      refine pure_ (i := 2) (N := some 34) (v := ?_) (a' := ?_) #[true, false, true, false, false, false, false, false, false] rfl rfl (by kernel_rfl) (fun _ _ _ h => h) (Or.inl ⟨by rfl, ?_⟩) ?_ ?_
      rotate_left
      · intro w'
        go_simp
        with_reducible rfl
      rotate_left
      · simp only [Act.put, List.setIfInBounds_toArray, List.set_cons_zero, List.set_cons_succ, i64_w, i32_w]
        rfl
      refine pure_ (i := 6) (N := some 38) (v := ?_) (a' := ?_) #[true, false, true, false, false, false, true, false, false] rfl rfl (by kernel_rfl) (fun _ _ _ h => h) (Or.inl ⟨by rfl, ?_⟩) ?_ ?_
      rotate_left
      · intro w'
        go_simp
        with_reducible rfl
      rotate_left
      · simp only [Act.put, List.setIfInBounds_toArray, List.set_cons_zero, List.set_cons_succ, i64_w, i32_w]
        rfl
      refine take_ (i := 1) (N := some 33) (v := ?_) (a' := ?_) #[true, true, true, false, false, false, true, false, false] rfl rfl (by kernel_rfl) (fun _ _ _ h => h) (Or.inl ⟨by rfl, ?_⟩) hHeld ?_ ?_
      rotate_left
      · rintro w' ⟨s0, s1, s2⟩
        go_simp
        with_reducible rfl
      rotate_left
      · simp only [Act.put, List.setIfInBounds_toArray, List.set_cons_zero, List.set_cons_succ, i64_w, i32_w]
        rfl
      refine take_ (i := 7) (N := some 39) (v := ?_) (a' := ?_) #[true, true, true, false, false, false, true, true, false] rfl rfl (by kernel_rfl) (fun _ _ _ h => h) (Or.inl ⟨by rfl, ?_⟩) hHeld ?_ ?_
      rotate_left
      · rintro w' ⟨s0, s1, s2⟩
        go_simp
        with_reducible rfl
      rotate_left
      · simp only [Act.put, List.setIfInBounds_toArray, List.set_cons_zero, List.set_cons_succ, i64_w, i32_w]
        rfl
      refine pure_ (i := 3) (N := some 35) (v := ?_) (a' := ?_) #[true, true, true, true, false, false, true, true, false] rfl rfl (by kernel_rfl) (fun _ _ _ h => h) (Or.inl ⟨by rfl, ?_⟩) ?_ ?_
      rotate_left
      · intro w'
        go_simp
        with_reducible rfl
      rotate_left
      · simp only [Act.put, List.setIfInBounds_toArray, List.set_cons_zero, List.set_cons_succ, i64_w, i32_w]
        rfl
      refine pure_ (i := 4) (N := some 36) (v := ?_) (a' := ?_) #[true, true, true, true, true, false, true, true, false] rfl rfl (by kernel_rfl) (fun _ _ _ h => h) (Or.inl ⟨by rfl, ?_⟩) ?_ ?_
      rotate_left
      · intro w'
        go_simp
        with_reducible rfl
      rotate_left
      · simp only [Act.put, List.setIfInBounds_toArray, List.set_cons_zero, List.set_cons_succ, i64_w, i32_w]
        rfl
      refine take_ (i := 5) (N := some 37) (v := ?_) (a' := ?_) #[true, true, true, true, true, true, true, true, false] rfl rfl (by kernel_rfl) (fun _ _ _ h => h) (Or.inl ⟨by rfl, ?_⟩) hHeld ?_ ?_
      rotate_left
      · rintro w' ⟨s0, s1, s2⟩
        go_simp
        with_reducible rfl
      rotate_left
      · simp only [Act.put, List.setIfInBounds_toArray, List.set_cons_zero, List.set_cons_succ, i64_w, i32_w]
        rfl
      refine last_ (i := 8) (N := some 40) #[true, true, true, true, true, true, true, true, true] rfl rfl (by kernel_rfl) (by decide) (fun K hK => ?_)
      have hrun := HRUN.out
      refine value_ (v := .int .i64 (ws.length : Int)) (w1 := W9) (by rfl) rfl ?_ ?_
      · go_simp
      clear hrun
      refine hK.out _ _ ?_
      clear hK K
      refine done_ (by kernel_rfl) ?_
      have KD6 := Aside0.mk ((hK9.2 _ (blk_lt KD4.out) (fun h => by omega)).trans KD4.out)
      have KU6 := Aside0.mk ((hK9.2 _ (blk_lt KU4.out) (fun h => by omega)).trans KU4.out)
      gi_wp2_with fail
      rw [show ((j : Int) + 1) = ((j + 1 : Nat) : Int) from by omega]
      refine ⟨⟨j + 1, makeS j rk ⟨(n : Int), ws⟩, _, _, _, _, _, _, _, _, _, _, _, _, _, _, _, _, rfl, ⟨hlt⟩, ⟨?_⟩, ⟨hRj.out.make HWL.out⟩, KD6, KU6, ⟨?_⟩, ⟨hB9⟩⟩, ?_⟩
      · have := hA.out
        rw [List.drop_eq_getElem_cons hlt, ← hsl] at this
        exact this
      · rw [HE2.out]
        exact hS9
      · show l0.length - (intOf (.int .i64 ((j + 1 : Nat) : Int))).toNat < l0.length - (intOf (.int .i64 (j : Int))).toNat
        simp only [intOf, Int.toNat_natCast]
        omega
    · have hje : j = l0.length := by have := hj.out; omega
      subst hje
      have hd : decide (l0.length < l0.length) = false := by simp
      have q0 := (blk_cell KU.out 0).trans rfl
      have q1 := (blk_cell KU.out 1).trans rfl
      have q2 := (blk_cell KD.out 0).trans rfl
      have q3 := (blk_cell KD.out 1).trans rfl
      have z0 := blk_frozen KD.out 0
      have z1 := blk_frozen KD.out 1
      gi_wp2_with fail
      have hw12 : w.heap.size + 1 ≤ w1.heap.size := HS3.out
      obtain ⟨X, hX⟩ : ∃ X, (wr.setCell ⟨w.heap.size, 0, none⟩ (Value.int IntKind.i64 n)).setCell ⟨w.heap.size, 1, none⟩ (Value.slice At rows.length ct) = X := ⟨_, rfl⟩
      have hKX : Kept wr X (fun k_ => k_ = w.heap.size) := by
        refine ⟨by rw [← hX, World.size_setCell, World.size_setCell]; exact Nat.le_refl _, fun k_ hk_ hn_ => ?_⟩
        rw [← hX, Below.heap_setCell _ _ _ _ hn_, Below.heap_setCell _ _ _ _ hn_]
      have hXg : X.heap[w.heap.size]? = some (.cells #[.int .i64 n, .slice At rows.length ct] 56 (0, 0)) := hX ▸ blk_put (blk_put KD.out 0 (Value.int IntKind.i64 n) rfl) 1 (Value.slice At rows.length ct) rfl
      have hXB := wb (g := w.heap.size) hX.symm HB.out (Nat.le_refl _)
      have hXS := Kd.S_kept HT.out hKX (fun k_ hk_ e => by omega)
      try rw [hX]
      have c0 := (blk_cell hXg 0).trans rfl
      have c1 := (blk_cell hXg 1).trans rfl
      refine bodyPost_ret (v := .tuple #[.agg #[.int .i64 n, .slice At rows.length ct], .int .i64 0]) ?_ rfl ⟨_, rfl, ?_, hXB⟩
      · simp [results, Tryd.f48, go_sem, c0, c1]
      · have hA2 : rk = makeA 0 l0 rows := by
          have := hA.out
          rw [List.drop_length] at this
          exact this
        rw [← hA2]
        exact Kd.S_mono hXS (fun _ _ => trivial)
end Go.Proofs.YtjmkhdhffmlhiaaDoor.PAll
end
section
namespace Go.Proofs.YtjmkhdhffmlhiaaDoor.PAll
set_option linter.unusedVariables false
set_option linter.unusedSimpArgs false
open Go.RowKit Go.Proofs.YtjmkhdhffmlhiaaDoorW.PrintWords Go.Proofs.YtjmkhdhffmlhiaaDoorW.PrintLast Go.Proofs.YtjmkhdhffmlhiaaDoorW.PrintMore
end Go.Proofs.YtjmkhdhffmlhiaaDoor.PAll
end
section
namespace Go.Proofs.YtjmkhdhffmlhiaaDoor.PAll
set_option linter.unusedVariables false
set_option linter.unusedSimpArgs false
open Go.RowKit Go.Shelf Go.Proofs.YtjmkhdhffmlhiaaDoorW.PrintWords Go.Proofs.YtjmkhdhffmlhiaaDoorW.PrintLast Go.Proofs.YtjmkhdhffmlhiaaDoorW.PrintMore
attribute [local go_sem] Oper.semAt_some
theorem Rok.both {n m j : Nat} {rows : List S24} (h : Rok n m rows) (hj : j < n) {s : S24} (hs : s.f1.length = (m + 63) / 64) : Rok n m (bothS j rows s) := by
  have hjl : j < rows.length := by rw [h.1]; exact hj
  refine ⟨by unfold bothS; rw [List.length_set, h.1], fun r hr => ?_⟩
  unfold bothS at hr
  rcases List.mem_or_eq_of_mem_set hr with hr | rfl
  · exact h.2 r hr
  · rw [rdT_nat rows hjl]
    have a1 := h.2 _ (List.getElem_mem hjl)
    simp only
    rw [orw_length (by omega)]
    exact a1
end Go.Proofs.YtjmkhdhffmlhiaaDoor.PAll
end
section
namespace Go.Proofs.YtjmkhdhffmlhiaaDoor.PAll
set_option linter.unusedVariables false
set_option linter.unusedSimpArgs false
open Go.RowKit Go.Proofs.YtjmkhdhffmlhiaaDoorW.PrintWords Go.Proofs.YtjmkhdhffmlhiaaDoorW.PrintLast Go.Proofs.YtjmkhdhffmlhiaaDoorW.PrintMore
end Go.Proofs.YtjmkhdhffmlhiaaDoor.PAll
end
section
namespace Go.Proofs.YtjmkhdhffmlhiaaDoor.PAll
set_option linter.unusedVariables false
set_option linter.unusedSimpArgs false
open Go.RowKit Go.Shelf Go.Proofs.YtjmkhdhffmlhiaaDoorW.PrintWords Go.Proofs.YtjmkhdhffmlhiaaDoorW.PrintLast Go.Proofs.YtjmkhdhffmlhiaaDoorW.PrintMore
attribute [local go_sem] Oper.semAt_some
set_option maxHeartbeats 8000000 in
set_option maxRecDepth 100000 in
theorem MakeTable_no (k : Nat) (n r : Int) (A0 : Option Addr) (c0 : Nat) (l0 : List S24) (w : World) (hr0 : Kd.C k24 w A0 l0.length l0) (hc0 : l0.length ≤ c0) (hr : r ≠ 0) (hM : bitset_fit.f k n l0 = some r) :
    Calls Tryd.prog 48 #[.int .i64 n, .slice A0 l0.length c0] w fun e w' => ∃ v : Value, e = .returned (.tuple #[.agg #[.int .i64 0, v], .int .i64 r]) ∧ Kd.S k24 24 w' w.heap.size (fun _ => True) v [] ∧ Below w.heap.size w w' := by
  have hu24 := Tryd.underlying24
  have hu56 := Tryd.underlying56
  have HC := Aside0.mk hr0
  have HM := Aside0.mk hM
  clear hr0 hM
  obtain ⟨o2, ho2⟩ : ∃ o2 : Obj, o2 = .cells #[.int .i64 0, .slice none 0 0] 56 (0, 0) := ⟨_, rfl⟩
  have K1 : (w.alloc o2).heap[w.heap.size]? = some o2 := blk_new w o2
  have HB0 : Below w.heap.size w (w.alloc o2) := below_alloc (Below.refl _ _) _
  rw [ho2] at K1 HB0
  clear ho2 o2
  have KD := Aside0.mk K1
  have HB := Aside0.mk HB0
  clear K1 HB0
  refine (callsIn_wide (n := 6)).1 ?_
  refine callsIn_of_wp Tryd.func48 rfl trivial ?_ rfl
  simp only [Tryd.ntmps48, List.size_toArray, List.length_cons, List.length_nil, Nat.reduceAdd, Nat.reduceSub, Array.replicate_succ, Array.replicate_zero, List.push_toArray, List.append_toArray, List.nil_append, List.cons_append]
  gi_wp2_with fail
  refine ⟨trivial, ?_⟩; gi_at_call 90
  refine (callsIn_wide.2 (bitset_fit.calls k n _ _ l0 r _ (Kd.C_alloc HC.out _) hc0 HM.out)).mono ?_
  rintro e w1 ⟨rfl, hb⟩
  have n2_ := Aside0.mk (blk_below KD.out hb); have n3_ := Aside0.mk (below_step HB.out hb)
  clear KD HB hb
  have KD := n2_; have HB := n3_
  clear n2_ n3_
  have q0 := (blk_cell KD.out 0).trans rfl; have q1 := (blk_cell KD.out 1).trans rfl; have z0 := blk_frozen KD.out 0; have z1 := blk_frozen KD.out 1
  gi_wp2_with fail
  obtain ⟨X, hX⟩ : ∃ X, (World.setCell w1 ⟨w.heap.size, 0, none⟩ (Value.int IntKind.i64 0)).setCell ⟨w.heap.size, 1, none⟩ (Value.slice none 0 0) = X := ⟨_, rfl⟩
  have hXg : X.heap[w.heap.size]? = some (.cells #[.int .i64 0, Value.slice none 0 0] 56 (0, 0)) := hX ▸ blk_put (blk_put KD.out 0 (Value.int IntKind.i64 0) rfl) 1 (Value.slice none 0 0) rfl
  have hXB := wb (g := w.heap.size) hX.symm HB.out (Nat.le_refl _)
  try rw [hX]
  have c0 := (blk_cell hXg 0).trans rfl
  have c1 := (blk_cell hXg 1).trans rfl
  refine bodyPost_ret (v := .tuple #[.agg #[.int .i64 0, .slice none 0 0], .int .i64 r]) ?_ rfl ⟨_, rfl, Kd.S_nil _ _ _ _ _, hXB⟩
  simp [results, Tryd.f48, go_sem, c0, c1]
set_option maxHeartbeats 8000000 in
set_option maxRecDepth 100000 in
theorem MakeTable_many (k : Nat) (n : Int) (A0 : Option Addr) (c0 : Nat) (l0 : List S24) (w : World) (hr0 : Kd.C k24 w A0 l0.length l0) (hc0 : l0.length ≤ c0) (hgt : (4096 : Int) < (l0.length : Int)) (hM : bitset_fit.f k n l0 = some 0) :
    Calls Tryd.prog 48 #[.int .i64 n, .slice A0 l0.length c0] w fun e w' => ∃ v : Value, e = .returned (.tuple #[.agg #[.int .i64 0, v], .int .i64 1]) ∧ Kd.S k24 24 w' w.heap.size (fun _ => True) v [] ∧ Below w.heap.size w w' := by
  have hu24 := Tryd.underlying24
  have hu56 := Tryd.underlying56
  have HC := Aside0.mk hr0
  have HM := Aside0.mk hM
  clear hr0 hM
  obtain ⟨o2, ho2⟩ : ∃ o2 : Obj, o2 = .cells #[.int .i64 0, .slice none 0 0] 56 (0, 0) := ⟨_, rfl⟩
  have K1 : (w.alloc o2).heap[w.heap.size]? = some o2 := blk_new w o2
  have HB0 : Below w.heap.size w (w.alloc o2) := below_alloc (Below.refl _ _) _
  rw [ho2] at K1 HB0
  clear ho2 o2
  have KD := Aside0.mk K1
  have HB := Aside0.mk HB0
  clear K1 HB0
  refine (callsIn_wide (n := 6)).1 ?_
  refine callsIn_of_wp Tryd.func48 rfl trivial ?_ rfl
  simp only [Tryd.ntmps48, List.size_toArray, List.length_cons, List.length_nil, Nat.reduceAdd, Nat.reduceSub, Array.replicate_succ, Array.replicate_zero, List.push_toArray, List.append_toArray, List.nil_append, List.cons_append]
  gi_wp2_with fail
  refine ⟨trivial, ?_⟩; gi_at_call 90
  refine (callsIn_wide.2 (bitset_fit.calls k n _ _ l0 0 _ (Kd.C_alloc HC.out _) hc0 HM.out)).mono ?_
  rintro e w1 ⟨rfl, hb⟩
  have n2_ := Aside0.mk (blk_below KD.out hb); have n3_ := Aside0.mk (below_step HB.out hb)
  clear KD HB hb
  have KD := n2_; have HB := n3_
  clear n2_ n3_
  have q0 := (blk_cell KD.out 0).trans rfl; have q1 := (blk_cell KD.out 1).trans rfl; have z0 := blk_frozen KD.out 0; have z1 := blk_frozen KD.out 1
  gi_wp2_with fail
  obtain ⟨X, hX⟩ : ∃ X, (World.setCell w1 ⟨w.heap.size, 0, none⟩ (Value.int IntKind.i64 0)).setCell ⟨w.heap.size, 1, none⟩ (Value.slice none 0 0) = X := ⟨_, rfl⟩
  have hXg : X.heap[w.heap.size]? = some (.cells #[.int .i64 0, Value.slice none 0 0] 56 (0, 0)) := hX ▸ blk_put (blk_put KD.out 0 (Value.int IntKind.i64 0) rfl) 1 (Value.slice none 0 0) rfl
  have hXB := wb (g := w.heap.size) hX.symm HB.out (Nat.le_refl _)
  try rw [hX]
  have c0 := (blk_cell hXg 0).trans rfl
  have c1 := (blk_cell hXg 1).trans rfl
  refine bodyPost_ret (v := .tuple #[.agg #[.int .i64 0, .slice none 0 0], .int .i64 1]) ?_ rfl ⟨_, rfl, Kd.S_nil _ _ _ _ _, hXB⟩
  simp [results, Tryd.f48, go_sem, c0, c1]
def bitset_MakeTable.f (k : Nat) (a0 : Int) (l1 : List S24) : Option (Int × List S24 × Int) :=
  if Goods l1 ∧ l1.length ≤ 9223372036854775807 then (bitset_fit.f k a0 l1).bind fun r => if r = 0 then (if (4096 : Int) < (l1.length : Int) then some (0, [], 1) else (bitset_blanks.f k a0 (l1.length : Int)).bind fun t => some (t.1, makeA 0 l1 t.2, 0)) else some (0, [], r) else none
theorem fit_is {k : Nat} {n r : Int} {l : List S24} (hg : Goods l) (hl : l.length ≤ 9223372036854775807) (h : bitset_fit.f k n l = some r) : FitSays n l r := by
  obtain ⟨q, h1, h2⟩ := fit_eq n l hl hg
  rw [Ev.eq (Ev.of (bitset_fit.mono _ _) h) h2]
  exact h1
theorem FitSays.zero {n : Int} {l : List S24} (h : FitSays n l 0) : (∀ x ∈ l, MayS x ∧ x.f0 = n) ∧ 0 ≤ n ∧ n ≤ 4096 := by
  rcases h with ⟨h1, _⟩ | ⟨h1, _⟩ | ⟨_, h1, h2, h3⟩
  · omega
  · omega
  · exact ⟨fun x hx => ⟨h1 x hx, h2 x hx⟩, h3⟩
theorem bitset_MakeTable.calls (k : Nat) (a0 : Int) (A1 : Option Addr) (c1 : Nat) (l1 : List (S24)) (r1 : Int) (r2 : List (S24)) (r3 : Int) (w : World) (hr1 : Kd.C k24 w A1 l1.length l1) (hc1 : l1.length ≤ c1) (h : bitset_MakeTable.f k a0 l1 = some (r1, r2, r3)) :
    Calls Tryd.prog 48 #[.int .i64 a0, .slice A1 l1.length c1] w fun e w' => ∃ v1_ : Value, e = .returned (.tuple #[.agg #[.int .i64 r1, v1_], .int .i64 r3]) ∧ Kd.S k24 24 w' w.heap.size (fun _ => True) v1_ r2 ∧ Below w.heap.size w w' := by
  unfold bitset_MakeTable.f at h
  by_cases hg : Goods l1 ∧ l1.length ≤ 9223372036854775807
  · rw [if_pos hg] at h
    obtain ⟨r, hM, h⟩ := Option.bind_eq_some_iff.1 h
    by_cases hr : r = 0
    · subst hr
      rw [if_pos rfl] at h
      by_cases hgt : (4096 : Int) < (l1.length : Int)
      · rw [if_pos hgt] at h
        cases h
        exact MakeTable_many k a0 A1 c1 l1 w hr1 hc1 hgt hM
      · rw [if_neg hgt] at h
        obtain ⟨t, hBl, h⟩ := Option.bind_eq_some_iff.1 h
        obtain ⟨hx, hn0, hn1⟩ := (fit_is hg.1 hg.2 hM).zero
        obtain ⟨n, rfl⟩ := Int.eq_ofNat_of_zero_le hn0
        have hT : TabP (n : Int) l1 := ⟨hn0, hn1, by omega, hx⟩
        obtain ⟨rows, hR, hE⟩ := blanks_ev (m := n) (n := l1.length) (by omega) (by omega)
        have ht := Ev.eq (Ev.of (bitset_blanks.mono _ _) hBl) hE
        subst ht
        simp only [Option.some.injEq, Prod.mk.injEq] at h
        obtain ⟨rfl, rfl, rfl⟩ := h
        exact MakeTable_yes k n A1 c1 l1 rows w hr1 hc1 hT hM hBl hR.rok
    · rw [if_neg hr] at h
      cases h
      exact MakeTable_no k a0 _ A1 c1 l1 w hr1 hc1 hr hM
  · rw [if_neg hg] at h; cases h
end Go.Proofs.YtjmkhdhffmlhiaaDoor.PAll
end
section
namespace Go.Proofs.YtjmkhdhffmlhiaaDoor.PAll
set_option linter.unusedVariables false
set_option linter.unusedSimpArgs false
open Go.RowKit Go.Shelf Go.Proofs.YtjmkhdhffmlhiaaDoorW.PrintWords Go.Proofs.YtjmkhdhffmlhiaaDoorW.PrintLast Go.Proofs.YtjmkhdhffmlhiaaDoorW.PrintMore
attribute [local go_sem] Oper.semAt_some
def clS (k : Nat) (rows : List S24) (i : Nat) : List S24 := if hb (rd_T24 rows (i : Int)).f1 k = true then (if i = k then rows else bothS i rows (rd_T24 rows (k : Int))) else rows
def clI (k : Nat) : Nat → Nat → List S24 → List S24
  | 0, _, rows => rows
  | d + 1, i, rows => clI k d (i + 1) (clS k rows i)
def clO (n : Nat) : Nat → Nat → List S24 → List S24
  | 0, _, rows => rows
  | d + 1, k, rows => clO n d (k + 1) (clI k n 0 rows)
def Rw (n : Nat) (rows : List S24) : Prop := rows.length = n ∧ ∀ r ∈ rows, r.f1.length = (n + 63) / 64 ∧ Wds r.f1
theorem orw_Wds {b ws : List Int} (h : Wds b) (k : Wds ws) : Wds (orw b ws) := by
  intro x hx
  unfold orw at hx
  rcases List.mem_append.1 hx with hx | hx
  · exact zip_Wds bitly_or h k x hx
  · exact h x (List.mem_of_mem_drop hx)
theorem Rw.step {n k i : Nat} {rows : List S24} (h : Rw n rows) (hk : k < n) (hi : i < n) : Rw n (clS k rows i) := by
  unfold clS
  split
  · split
    · exact h
    · have hil : i < rows.length := by rw [h.1]; exact hi
      have hkl : k < rows.length := by rw [h.1]; exact hk
      have h1 := h.2 _ (List.getElem_mem hil)
      have h2 := h.2 _ (List.getElem_mem hkl)
      refine ⟨by unfold bothS; rw [List.length_set, h.1], fun r hr => ?_⟩
      unfold bothS at hr
      rcases List.mem_or_eq_of_mem_set hr with hr | rfl
      · exact h.2 r hr
      · rw [rdT_nat rows hil, rdT_nat rows hkl]
        exact ⟨by simp only; rw [orw_length (by omega)]; exact h1.1, orw_Wds h1.2 h2.2⟩
  · exact h
end Go.Proofs.YtjmkhdhffmlhiaaDoor.PAll
end
section
namespace Go.Proofs.YtjmkhdhffmlhiaaDoor.PAll
set_option linter.unusedVariables false
set_option linter.unusedSimpArgs false
open Go.RowKit Go.Shelf Go.Proofs.YtjmkhdhffmlhiaaDoorW.PrintWords Go.Proofs.YtjmkhdhffmlhiaaDoorW.PrintLast Go.Proofs.YtjmkhdhffmlhiaaDoorW.PrintMore
attribute [local go_sem] Oper.semAt_some
def bitset_Closure.f (k : Nat) (a0_0 : Int) (l0_1 : List S24) : Option (Int × List S24 × Int) :=
  if Goods l0_1 ∧ l0_1.length ≤ 9223372036854775807 then (bitset_MayTable.f k a0_0 l0_1).bind fun b => if b = true then
    if a0_0 = (l0_1.length : Int) then (bitset_MakeTable.f k a0_0 l0_1).bind fun t => some (t.1, clO l0_1.length l0_1.length 0 t.2.1, 0) else some (0, [], 60) else some (0, [], 61) else none
theorem makeA_is {n : Nat} : ∀ (l : List S24) (j : Nat) (rows : List S24), j + l.length = rows.length → (∀ s ∈ l, s.f0 = (n : Int)) → (∀ r ∈ rows, r.f0 = (n : Int)) → makeA j l rows = rows.take j ++ l
  | [], j, rows, h, _, _ => by
    rw [List.length_nil, Nat.add_zero] at h
    rw [makeA, h, List.take_length, List.append_nil]
  | s :: l, j, rows, h, hs, hr => by
    simp only [List.length_cons] at h
    have hj : j < rows.length := by omega
    have e : (⟨(rd_T24 rows (j : Int)).f0, s.f1⟩ : S24) = s := S_ext (by rw [rdT_nat rows hj, hr _ (List.getElem_mem hj), hs s List.mem_cons_self]) rfl
    have e2 : makeS j rows s = rows.set j s := by unfold makeS; rw [e]
    rw [makeA, e2, makeA_is l (j + 1) (rows.set j s) (by rw [List.length_set]; omega) (fun x hx => hs x (List.mem_cons_of_mem _ hx)) (fun x hx => by
      rcases List.mem_or_eq_of_mem_set hx with hx | rfl
      · exact hr x hx
      · exact hs _ List.mem_cons_self)]
    rw [List.take_add_one, List.take_set_of_le (by omega)]
    simp [hj]
theorem MakeTable_rows {n m : Nat} (hn : n ≤ 4096) (hm : m ≤ 4096) {p : Nat → Nat → Bool} {l : List S24} (hR : RowsAre n m p l) : Ev (fun k => bitset_MakeTable.f k (m : Int) l) ((m : Int), l, 0) := by
  obtain ⟨hT, hg⟩ := hR.tab hn hm
  have hl : l.length ≤ 9223372036854775807 := by rw [hR.1]; omega
  obtain ⟨r, h1, K, hM⟩ := fit_eq (m : Int) l hl hg
  have hr : r = 0 := h1.eq (.inr (.inr ⟨rfl, fun x hx => (hT.2.2.2 x hx).1, fun x hx => (hT.2.2.2 x hx).2, by omega, by omega⟩))
  subst hr
  obtain ⟨rows, hB, L, hE⟩ := blanks_ev (m := m) (n := l.length) hm (by rw [hR.1]; exact hn)
  refine ⟨K + L, fun k hk => ?_⟩
  have x1 := hM k (by omega)
  have x2 := hE k (by omega)
  dsimp only at x1 x2
  have e : makeA 0 l rows = l := by
    rw [makeA_is (n := m) l 0 rows (by rw [Nat.zero_add, hB.1]) (fun s hs => (hT.2.2.2 s hs).2) (fun r hr => by obtain ⟨i, hi, rfl⟩ := List.getElem_of_mem hr; exact (hB.2 i hi).1)]
    rfl
  show bitset_MakeTable.f k (m : Int) l = _
  unfold bitset_MakeTable.f
  rw [if_pos ⟨hg, hl⟩, x1, Option.bind_some, if_pos rfl, if_neg (by rw [hR.1]; omega), x2, Option.bind_some]
  dsimp only
  rw [e]
theorem RowsAre.rw {n : Nat} {p : Nat → Nat → Bool} {rows : List S24} (h : RowsAre n n p rows) : Rw n rows :=
  ⟨h.1, fun r hr => by obtain ⟨i, hi, rfl⟩ := List.getElem_of_mem hr; exact ⟨(h.2 i hi).2.len, (h.2 i hi).2.wds⟩⟩
end Go.Proofs.YtjmkhdhffmlhiaaDoor.PAll
end
section
namespace Go.Proofs.YtjmkhdhffmlhiaaDoor.PAll
set_option linter.unusedVariables false
set_option linter.unusedSimpArgs false
open Go.RowKit Go.Shelf Go.Proofs.YtjmkhdhffmlhiaaDoorW.PrintWords Go.Proofs.YtjmkhdhffmlhiaaDoorW.PrintLast Go.Proofs.YtjmkhdhffmlhiaaDoorW.PrintMore
def way (p : Nat → Nat → Bool) : Nat → Nat → Nat → Bool
  | 0, x, y => p x y
  | k + 1, x, y => way p k x y || (way p k x k && way p k k y)
theorem RowsAre.cl {n : Nat} {p : Nat → Nat → Bool} {rows : List S24} (h : RowsAre n n p rows) {k i : Nat} (hk : k < n) (hi : i < n) : RowsAre n n (fun x d => p x d || (decide (x = i) && (p i k && p k d))) (clS k rows i) := by
  have hil : i < rows.length := by rw [h.1]; exact hi
  have hkl : k < rows.length := by rw [h.1]; exact hk
  have hik := (h.2 i hil).2.has k
  unfold clS
  rw [rdT_nat rows hil, rdT_nat rows hkl, hik]
  simp only [hk, decide_true, Bool.true_and]
  by_cases hp : p i k = true
  · rw [if_pos hp]
    by_cases he : i = k
    · rw [if_pos he]
      subst he
      refine h.congr fun x _ d _ => ?_
      by_cases hx : x = i
      · subst hx; rw [hp]; simp
      · simp [hx]
    · rw [if_neg he]
      refine (h.both hi (h.2 k hkl).2).congr fun x _ d _ => ?_
      rw [hp, Bool.true_and]
  · rw [if_neg hp]
    have hp' : p i k = false := by simpa using hp
    exact h.congr fun x _ d _ => by rw [hp']; simp
theorem RowsAre.clI {n : Nat} {k : Nat} (hk : k < n) : ∀ (d i : Nat) {p : Nat → Nat → Bool} {rows : List S24}, RowsAre n n p rows → i + d = n → RowsAre n n (fun x y => p x y || (decide (i ≤ x) && (p x k && p k y))) (clI k d i rows)
  | 0, i, p, rows, h, hi => by
    refine h.congr fun x hx y _ => ?_
    have : ¬ i ≤ x := by omega
    simp [this]
  | d + 1, i, p, rows, h, hi => by
    have hin : i < n := by omega
    refine (RowsAre.clI hk d (i + 1) (h.cl hk hin) (by omega)).congr fun x hx y _ => ?_
    by_cases hxi : x = i
    · subst hxi
      have h1 : ¬ x + 1 ≤ x := by omega
      simp [h1]
    · by_cases hle : i ≤ x
      · have h1 : i + 1 ≤ x := by omega
        by_cases hki : k = i
        · subst hki
          simp only [hxi, hle, h1, decide_true, decide_false, Bool.true_and, Bool.false_and, Bool.or_false]
          generalize p x y = a1
          generalize p x k = a2
          generalize p k y = a3
          generalize p k k = a4
          revert a1 a2 a3 a4
          decide
        · simp [hxi, hle, h1, hki]
      · have h1 : ¬ i + 1 ≤ x := by omega
        simp [hxi, hle, h1]
theorem RowsAre.clO {n : Nat} {p : Nat → Nat → Bool} : ∀ (d k : Nat) {rows : List S24}, RowsAre n n (way p k) rows → k + d = n → RowsAre n n (way p n) (clO n d k rows)
  | 0, k, rows, h, hk => by
    rw [Nat.add_zero] at hk
    subst hk
    exact h
  | d + 1, k, rows, h, hk => RowsAre.clO d (k + 1) ((RowsAre.clI (by omega) n 0 h (by omega)).congr fun x _ y _ => by rw [way]; simp) (by omega)
end Go.Proofs.YtjmkhdhffmlhiaaDoor.PAll
end
section
namespace Go.Proofs.YtjmkhdhffmlhiaaDoor.PAll
open Go.RowKit Go.Proofs.YtjmkhdhffmlhiaaDoorW.PrintWords Go.Proofs.YtjmkhdhffmlhiaaDoorW.PrintLast Go.Proofs.YtjmkhdhffmlhiaaDoorW.PrintMore
attribute [local go_sem] max2_int min2_int max_two min_two max_three min_three max_four min_four w64_u8 w64_mod256   -- for this text's walks alone
set_option linter.unusedVariables false
set_option linter.unusedSimpArgs false
end Go.Proofs.YtjmkhdhffmlhiaaDoor.PAll
end
section
namespace Go.Proofs.YtjmkhdhffmlhiaaDoor.PAll
open Go.RowKit Go.Proofs.YtjmkhdhffmlhiaaDoorW.PrintWords Go.Proofs.YtjmkhdhffmlhiaaDoorW.PrintLast Go.Proofs.YtjmkhdhffmlhiaaDoorW.PrintMore
attribute [local go_sem] max2_int min2_int max_two min_two max_three min_three max_four min_four w64_u8 w64_mod256   -- for this text's walks alone
set_option linter.unusedVariables false
set_option linter.unusedSimpArgs false
end Go.Proofs.YtjmkhdhffmlhiaaDoor.PAll
end
section
namespace Go.Proofs.YtjmkhdhffmlhiaaDoor.PAll
open Go.RowKit Go.Proofs.YtjmkhdhffmlhiaaDoorW.PrintWords Go.Proofs.YtjmkhdhffmlhiaaDoorW.PrintLast Go.Proofs.YtjmkhdhffmlhiaaDoorW.PrintMore
attribute [local go_sem] max2_int min2_int max_two min_two max_three min_three max_four min_four w64_u8 w64_mod256   -- for this text's walks alone
set_option linter.unusedVariables false
set_option linter.unusedSimpArgs false
def bitset_Range.l0 : Nat → Int → Int → Int → Int → Int → List Int → Option (Int × List Int × Int)
  | 0, _, _, _, _, _, _ => none
  | k + 1, x1, x2, x26, x27, x108000, x108001 => if x27 < x26 then (if (mx (wrap64 (x1 - (wrap64 (x27 * 64)))) 0) < (mn (wrap64 (x2 - (wrap64 (x27 * 64)))) 64) then (if 0 ≤ (wrap64 (64 - (wrap64 ((mn (wrap64 (x2 - (wrap64 (x27 * 64)))) 64) - (mx (wrap64 (x1 - (wrap64 (x27 * 64)))) 0))))) then (if 0 ≤ x27 then (if x27 < (x108001.length : Int) then (bitset_Range.l0 k x1 x2 x26 (wrap64 (x27 + 1)) x108000 (x108001.set (x27 : Int).toNat (shl .u64 (shr .u64 18446744073709551615 (wrap64 (64 - (wrap64 ((mn (wrap64 (x2 - (wrap64 (x27 * 64)))) 64) - (mx (wrap64 (x1 - (wrap64 (x27 * 64)))) 0)))))) (mx (wrap64 (x1 - (wrap64 (x27 * 64)))) 0)))) else (none)) else (none)) else (none)) else (bitset_Range.l0 k x1 x2 x26 (wrap64 (x27 + 1)) x108000 x108001)) else (some (x108000, x108001, 0))
def bitset_Range.f (k : Nat) (a0 : Int) (a1 : Int) (a2 : Int) : Option (Int × List Int × Int) := (bitset_sized.f a0).bind fun t102 => (if t102 = true then ((bitset_blank.f a0).bind fun bt103 => (bitset_Range.l0 k (mx a1 0) (mx (mn a2 a0) 0) (bt103.2.length : Int) 0 bt103.1 bt103.2)) else (some (0, ([] : List Int), 60)))
end Go.Proofs.YtjmkhdhffmlhiaaDoor.PAll
end
section
namespace Go.Proofs.YtjmkhdhffmlhiaaDoor.PAll
open Go.RowKit Go.Proofs.YtjmkhdhffmlhiaaDoorW.PrintWords Go.Proofs.YtjmkhdhffmlhiaaDoorW.PrintLast Go.Proofs.YtjmkhdhffmlhiaaDoorW.PrintMore
attribute [local go_sem] max2_int min2_int max_two min_two max_three min_three max_four min_four w64_u8 w64_mod256   -- for this text's walks alone
set_option linter.unusedVariables false
set_option linter.unusedSimpArgs false
end Go.Proofs.YtjmkhdhffmlhiaaDoor.PAll
end
section
namespace Go.Proofs.YtjmkhdhffmlhiaaDoor.PAll
open Go.RowKit Go.Proofs.YtjmkhdhffmlhiaaDoorW.PrintWords Go.Proofs.YtjmkhdhffmlhiaaDoorW.PrintLast Go.Proofs.YtjmkhdhffmlhiaaDoorW.PrintMore
attribute [local go_sem] max2_int min2_int max_two min_two max_three min_three max_four min_four w64_u8 w64_mod256   -- for this text's walks alone
set_option linter.unusedVariables false
set_option linter.unusedSimpArgs false
def bitset_two_andNot.j0 : Nat → Unit → Bool → Int → List Int → Int → List Int → Option (Int × List Int × Int)
  | 0, _, _, _, _, _, _ => none
  | k + 1, x2, x15, x102000, x102001, x103000, x103001 => if x15 = true then (some (0, ([] : List Int), 61)) else (if x102000 = x103000 then ((bitset_own.f x102000 x102001).bind fun t106 => ((bitset_fold_andNot.f x102000 t106 (([(⟨x103000, x103001⟩ : S24)] : List (S24))) x2).bind fun bt112 => (some (bt112.1, bt112.2, 0)))) else (some (0, ([] : List Int), 60)))
def bitset_two_andNot.f (k : Nat) (a0_0 : Int) (l0_1 : List Int) (a1_0 : Int) (l1_1 : List Int) (a2 : Unit) : Option (Int × List Int × Int) := (bitset_May.f a0_0 l0_1).bind fun t104 => (if t104 = true then ((bitset_May.f a1_0 l1_1).bind fun t105 => (bitset_two_andNot.j0 k a2 (!t105) a0_0 l0_1 a1_0 l1_1)) else (bitset_two_andNot.j0 k a2 true a0_0 l0_1 a1_0 l1_1))
end Go.Proofs.YtjmkhdhffmlhiaaDoor.PAll
end
section
namespace Go.Proofs.YtjmkhdhffmlhiaaDoor.PAll
open Go.RowKit Go.Proofs.YtjmkhdhffmlhiaaDoorW.PrintWords Go.Proofs.YtjmkhdhffmlhiaaDoorW.PrintLast Go.Proofs.YtjmkhdhffmlhiaaDoorW.PrintMore
attribute [local go_sem] max2_int min2_int max_two min_two max_three min_three max_four min_four w64_u8 w64_mod256   -- for this text's walks alone
set_option linter.unusedVariables false
set_option linter.unusedSimpArgs false
end Go.Proofs.YtjmkhdhffmlhiaaDoor.PAll
end
section
namespace Go.Proofs.YtjmkhdhffmlhiaaDoor.PAll
open Go.RowKit Go.Proofs.YtjmkhdhffmlhiaaDoorW.PrintWords Go.Proofs.YtjmkhdhffmlhiaaDoorW.PrintLast Go.Proofs.YtjmkhdhffmlhiaaDoorW.PrintMore
attribute [local go_sem] max2_int min2_int max_two min_two max_three min_three max_four min_four w64_u8 w64_mod256   -- for this text's walks alone
set_option linter.unusedVariables false
set_option linter.unusedSimpArgs false
def bitset_none_andNot.f (k : Nat) (a0_0 : Int) (l0_1 : List Int) (a1_0 : Int) (l1_1 : List Int) (a2 : Unit) : Option (Bool) := (bitset_two_andNot.f k a0_0 l0_1 a1_0 l1_1 a2).bind fun bt103 => (if bt103.2.2 = 0 then ((bitset_Count.f k bt103.1 bt103.2.1).bind fun t109 => (some (t109 == 0))) else (some false))
end Go.Proofs.YtjmkhdhffmlhiaaDoor.PAll
end
section
namespace Go.Proofs.YtjmkhdhffmlhiaaDoor.PAll
open Go.RowKit Go.Proofs.YtjmkhdhffmlhiaaDoorW.PrintWords Go.Proofs.YtjmkhdhffmlhiaaDoorW.PrintLast Go.Proofs.YtjmkhdhffmlhiaaDoorW.PrintMore
attribute [local go_sem] max2_int min2_int max_two min_two max_three min_three max_four min_four w64_u8 w64_mod256   -- for this text's walks alone
set_option linter.unusedVariables false
set_option linter.unusedSimpArgs false
def bitset_Subset.f (k : Nat) (a0_0 : Int) (l0_1 : List Int) (a1_0 : Int) (l1_1 : List Int) : Option (Bool) := (bitset_none_andNot.f k a0_0 l0_1 a1_0 l1_1 ()).bind fun t103 => (some t103)
end Go.Proofs.YtjmkhdhffmlhiaaDoor.PAll
end
section
namespace Go.Proofs.YtjmkhdhffmlhiaaDoor.PAll
open Go.RowKit Go.Proofs.YtjmkhdhffmlhiaaDoorW.PrintWords Go.Proofs.YtjmkhdhffmlhiaaDoorW.PrintLast Go.Proofs.YtjmkhdhffmlhiaaDoorW.PrintMore
attribute [local go_sem] max2_int min2_int max_two min_two max_three min_three max_four min_four w64_u8 w64_mod256   -- for this text's walks alone
set_option linter.unusedVariables false
set_option linter.unusedSimpArgs false
def bitset_Union.f (k : Nat) (a0 : Int) (l1 : List (S24)) : Option (Int × List Int × Int) := (bitset_fit.f k a0 l1).bind fun t102 => (if t102 = 0 then ((bitset_blank.f a0).bind fun bt103 => ((bitset_fold_or.f bt103.1 bt103.2 l1 ()).bind fun bt107 => (some (bt107.1, bt107.2, 0)))) else (some (0, ([] : List Int), t102)))
end Go.Proofs.YtjmkhdhffmlhiaaDoor.PAll
end
section
namespace Go.Proofs.YtjmkhdhffmlhiaaDoor.PAll
open Go.RowKit Go.Proofs.YtjmkhdhffmlhiaaDoorW.PrintWords Go.Proofs.YtjmkhdhffmlhiaaDoorW.PrintLast Go.Proofs.YtjmkhdhffmlhiaaDoorW.PrintMore
attribute [local go_sem] max2_int min2_int max_two min_two max_three min_three max_four min_four w64_u8 w64_mod256   -- for this text's walks alone
set_option linter.unusedVariables false
set_option linter.unusedSimpArgs false
end Go.Proofs.YtjmkhdhffmlhiaaDoor.PAll
end
section
namespace Go.Proofs.YtjmkhdhffmlhiaaDoor.PAll
open Go.RowKit Go.Proofs.YtjmkhdhffmlhiaaDoorW.PrintWords Go.Proofs.YtjmkhdhffmlhiaaDoorW.PrintLast Go.Proofs.YtjmkhdhffmlhiaaDoorW.PrintMore
attribute [local go_sem] max2_int min2_int max_two min_two max_three min_three max_four min_four w64_u8 w64_mod256   -- for this text's walks alone
set_option linter.unusedVariables false
set_option linter.unusedSimpArgs false
end Go.Proofs.YtjmkhdhffmlhiaaDoor.PAll
end
section
namespace Go.Proofs.YtjmkhdhffmlhiaaDoor.PAll
open Go.RowKit Go.Proofs.YtjmkhdhffmlhiaaDoorW.PrintWords Go.Proofs.YtjmkhdhffmlhiaaDoorW.PrintLast Go.Proofs.YtjmkhdhffmlhiaaDoorW.PrintMore
attribute [local go_sem] max2_int min2_int max_two min_two max_three min_three max_four min_four w64_u8 w64_mod256   -- for this text's walks alone
set_option linter.unusedVariables false
set_option linter.unusedSimpArgs false
end Go.Proofs.YtjmkhdhffmlhiaaDoor.PAll
end
section
namespace Go.Proofs.YtjmkhdhffmlhiaaDoor.PAll
set_option linter.unusedVariables false
open Go.RowKit Go.Proofs.YtjmkhdhffmlhiaaDoorW.PrintWords Go.Proofs.YtjmkhdhffmlhiaaDoorW.PrintMore
def RangeSays (size lo hi : Int) (r : Int × List Int × Int) : Prop :=
  ((size < 0 ∨ 4096 < size) ∧ r = (0, [], 60)) ∨ (0 ≤ size ∧ size ≤ 4096 ∧ ∃ ws, Is size.toNat (fun e => decide (lo ≤ (e : Int)) && decide ((e : Int) < hi)) ws ∧ r = (size, ws, 0))
theorem RangeSays.eq {size lo hi : Int} {r q : Int × List Int × Int} (h : RangeSays size lo hi r) (k : RangeSays size lo hi q) : r = q := by
  rcases h with ⟨h1, rfl⟩ | ⟨h1, h2, ws, h4, rfl⟩ <;> rcases k with ⟨k1, rfl⟩ | ⟨k1, k2, vs, k4, rfl⟩
  · rfl
  · omega
  · omega
  · rw [h4.eq k4 (fun _ _ => rfl)]
def manyb (all : Bool) (l : List S24) (d : Nat) : Bool := if all then l.all (fun x => hb x.f1 d) else l.any (fun x => hb x.f1 d)
def ManySays (n : Int) (l : List S24) (all : Bool) (r : Int × List Int × Int) : Prop :=
  (∃ e, e ≠ 0 ∧ FitSays n l e ∧ r = (0, [], e)) ∨ (FitSays n l 0 ∧ ∃ ws, Is n.toNat (manyb all l) ws ∧ r = (n, ws, 0))
theorem ManySays.eq {n : Int} {l : List S24} {all : Bool} {r q : Int × List Int × Int} (h : ManySays n l all r) (k : ManySays n l all q) : r = q := by
  rcases h with ⟨e, h1, h2, rfl⟩ | ⟨h1, ws, h2, rfl⟩ <;> rcases k with ⟨e2, k1, k2, rfl⟩ | ⟨k1, vs, k2, rfl⟩
  · rw [h2.eq k2]
  · exact absurd (h2.eq k1) h1
  · exact absurd (k2.eq h1) k1
  · rw [h2.eq k2 (fun _ _ => rfl)]
theorem ManySays.bound {n : Int} {l : List S24} {all : Bool} {s : Int} {vs : List Int} {c : Int} (h : ManySays n l all (s, vs, c)) : vs.length ≤ 9223372036854775807 := by
  rcases h with ⟨e, h1, h2, h3⟩ | ⟨h1, ws, h2, h3⟩
  · cases h3; simp
  · cases h3
    rcases h1 with ⟨h1, _⟩ | ⟨h1, _⟩ | ⟨_, _, _, h3, h4⟩
    · omega
    · omega
    · rw [h2.len]; omega
end Go.Proofs.YtjmkhdhffmlhiaaDoor.PAll
end
section
namespace Go.Proofs.YtjmkhdhffmlhiaaDoor.PAll
open Go.RowKit Go.Proofs.YtjmkhdhffmlhiaaDoorW.PrintWords Go.Proofs.YtjmkhdhffmlhiaaDoorW.PrintLast Go.Proofs.YtjmkhdhffmlhiaaDoorW.PrintMore
attribute [local go_sem] max2_int min2_int max_two min_two max_three min_three max_four min_four w64_u8 w64_mod256   -- for this text's walks alone
set_option linter.unusedVariables false
set_option linter.unusedSimpArgs false
mutual
def slopelaw3_chain.j0 : Nat → Int → Int → Bool → Option (Bool)
  | 0, _, _, _ => none
  | k + 1, x0, x1, x27 => if x27 = true then (some true) else (slopelaw3_chain.l0 k x0 x1 ([] : List (S24)) 0)
def slopelaw3_chain.l0 : Nat → Int → Int → List (S24) → Int → Option (Bool)
  | 0, _, _, _, _ => none
  | k + 1, x0, x1, x5, x6 => if x6 < x0 then ((bitset_Range.f k x0 (wrap64 (x6 + 1)) (wrap64 (x6 + 2))).bind fun bt101 => ((slopelaw3_num.f bt101.2.2).bind fun t107 => (if t107 = 0 then (if x5.length < 4398046511104 then (slopelaw3_chain.l0 k x0 x1 (x5 ++ [(⟨bt101.1, bt101.2.1⟩ : S24)]) (wrap64 (x6 + 1))) else (none)) else (some false)))) else ((bitset_Closure.f k x0 x5).bind fun bt111 => ((slopelaw3_num.f bt111.2.2).bind fun t117 => (if t117 = 0 then (slopelaw3_chain.j2 k x0 x1 ((bt111.2.1.length : Int) != x0) bt111.1 bt111.2.1) else (slopelaw3_chain.j2 k x0 x1 true bt111.1 bt111.2.1))))
def slopelaw3_chain.j2 : Nat → Int → Int → Bool → Int → List (S24) → Option (Bool)
  | 0, _, _, _, _, _ => none
  | k + 1, x0, x1, x65, x117000, x117001 => if x65 = true then (some false) else ((bitset_Range.f k x0 (wrap64 (x1 + 1)) x0).bind fun bt118 => ((slopelaw3_num.f bt118.2.2).bind fun t124 => (if t124 = 0 then (if 0 ≤ x1 then (if x1 < (x117001.length : Int) then ((slopelaw3_same.f k ((rd_T24 x117001 x1).f0) ((rd_T24 x117001 x1).f1) bt118.1 bt118.2.1).bind fun t126 => (some t126)) else (none)) else (none)) else (some false))))
end
def slopelaw3_chain.f (k : Nat) (a0 : Int) (a1 : Int) : Option (Bool) := if a0 < 1 then (slopelaw3_chain.j0 k a0 a1 true) else (if a0 > 4096 then (slopelaw3_chain.j0 k a0 a1 true) else (if a1 < 0 then (slopelaw3_chain.j0 k a0 a1 true) else (slopelaw3_chain.j0 k a0 a1 (decide (a1 ≥ a0)))))
end Go.Proofs.YtjmkhdhffmlhiaaDoor.PAll
end
