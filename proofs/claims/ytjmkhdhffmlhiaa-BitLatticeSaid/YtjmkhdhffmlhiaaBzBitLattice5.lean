import Derived.Test.YtjmkhdhffmlhiaaBzBitLattice2
import Derived.Test.YtjmkhdhffmlhiaaBzBitLattice4
import Derived.Test.YtjmkhdhffmlhiaaBzBitLattice3
import Derived.Lib.Hide
import Derived.StillTailTactics
import Derived.Test.YtjmkhdhffmlhiaaBzBitLattice1
section
namespace Go.Proofs.Ytjmkhdhffmlhiaa.PAll
open Go.RowKit Go.Proofs.YtjmkhdhffmlhiaaW.PrintWords Go.Proofs.YtjmkhdhffmlhiaaW.PrintLast Go.Proofs.YtjmkhdhffmlhiaaW.PrintMore
attribute [local go_sem] max2_int min2_int max_two min_two max_three min_three max_four min_four w64_u8 w64_mod256   -- for this text's walks alone
set_option linter.unusedVariables false
set_option linter.unusedSimpArgs false
def bitset_Rest.f (k : Nat) (a0_0 : Int) (l0_1 : List Int) : Option (Int × List Int × Int) := (bitset_May.f a0_0 l0_1).bind fun t103 => (if t103 = true then ((bitset_Range.f k a0_0 0 a0_0).bind fun bt104 => ((bitset_two_andNot.f k bt104.1 bt104.2.1 a0_0 l0_1 ()).bind fun bt110 => (some (bt110.1, bt110.2.1, bt110.2.2)))) else (some (0, ([] : List Int), 61)))
set_option maxHeartbeats 8000000 in
set_option maxRecDepth 100000 in
theorem bitset_Rest.calls (k : Nat) (a0_0 : Int) (A0_1 : Option Addr) (c0_1 : Nat) (l0_1 : List Int) (r1 : Int) (r2 : List Int) (r3 : Int) (w : World) (hr0_1 : Kd.C (Kd.int .u64) w A0_1 l0_1.length l0_1) (hc0_1 : l0_1.length ≤ c0_1) (h : bitset_Rest.f k a0_0 l0_1 = some (r1, r2, r3)) :
    Calls Try.prog 44 #[.agg #[.int .i64 a0_0, .slice A0_1 l0_1.length c0_1]] w fun e w' => ∃ v1_ : Value, e = .returned (.tuple #[.agg #[.int .i64 r1, v1_], .int .i64 r3]) ∧ Kd.R (Kd.int .u64) 82 w' w.heap.size (fun _ => True) v1_ r2 ∧ Below w.heap.size w w' := by
  have hu26 := Try.underlying26
  have HR0_1 := Aside0.mk hr0_1
  have HC0_1 := Aside0.mk hc0_1
  clear hr0_1 hc0_1
  have HB := Aside0.mk (Below.refl w.heap.size w)
  have H : ((bitset_May.f a0_0 l0_1).bind fun t103 => (if t103 = true then ((bitset_Range.f k a0_0 0 a0_0).bind fun bt104 => ((bitset_two_andNot.f k bt104.1 bt104.2.1 a0_0 l0_1 ()).bind fun bt110 => (some (bt110.1, bt110.2.1, bt110.2.2)))) else (some (0, ([] : List Int), 61)))) = some (r1, r2, r3) := h
  clear h
  replace H := Option.bind_eq_some_iff.mp H
  obtain ⟨t103, A20, H⟩ := H
  replace H : (if t103 = true then ((bitset_Range.f k a0_0 0 a0_0).bind fun bt104 => ((bitset_two_andNot.f k bt104.1 bt104.2.1 a0_0 l0_1 ()).bind fun bt110 => (some (bt110.1, bt110.2.1, bt110.2.2)))) else (some (0, ([] : List Int), 61))) = some (r1, r2, r3) := H
  have A2 := Aside0.mk A20
  clear A20
  by_cases c3 : t103 = true
  · subst c3
    have H1 : ((bitset_Range.f k a0_0 0 a0_0).bind fun bt104 => ((bitset_two_andNot.f k bt104.1 bt104.2.1 a0_0 l0_1 ()).bind fun bt110 => (some (bt110.1, bt110.2.1, bt110.2.2)))) = some (r1, r2, r3) := by rw [if_pos rfl] at H; exact H
    clear H
    have H := H1
    clear H1
    replace H := Option.bind_eq_some_iff.mp H
    obtain ⟨⟨t104, t105, t108⟩, A40, H⟩ := H
    replace H : ((bitset_two_andNot.f k t104 t105 a0_0 l0_1 ()).bind fun bt110 => (some (bt110.1, bt110.2.1, bt110.2.2))) = some (r1, r2, r3) := H
    have A4 := Aside0.mk A40
    clear A40
    replace H := Option.bind_eq_some_iff.mp H
    obtain ⟨⟨t110, t111, t114⟩, A50, H⟩ := H
    replace H : (some (t110, t111, t114)) = some (r1, r2, r3) := H
    have A5 := Aside0.mk A50
    clear A50
    simp only [Option.some.injEq, Prod.mk.injEq] at H
    obtain ⟨rfl, rfl, rfl⟩ := H
    go_enter Try.func44, Try.ntmps44
    go_wp2_with (first | ((with_reducible refine gate_dst (N := 1) rfl ?_); refine box_event ?hg (N := 1) ?hd (cs := #[.int .i64 a0_0, .slice A0_1 l0_1.length c0_1]) (t := 26) ?hr ?_; (case hd => rfl); (case hg => rfl); (case hr => first | (go_simp; done) | (go_simp; rfl)); intro gb101 hg w6 hbox hb; have n0_ := Aside0.mk (below_step (by repeat (first | (with_reducible first | exact HB.out | apply below_alloc | apply pw_below_drewN | apply below_drew1) | exact HB.out)) hb); have n1_ := Aside0.mk (hbox); have n2_ := Aside0.mk ((by rw [hg]; exact (below_size (by repeat (first | (with_reducible first | exact HB.out | apply below_alloc | apply pw_below_drewN | apply below_drew1) | exact HB.out))) : w.heap.size ≤ gb101)); have n3_ := Aside0.mk ((by rw [hg]; exact (below_size (by repeat (first | (with_reducible first | exact HB.out | apply below_alloc | apply pw_below_drewN | apply below_drew1) | exact HB.out))) : w.heap.size ≤ gb101)); clear HB; have HB := n0_; have BK101 := n1_; have GW101 := n2_; have GE101 := n3_; clear n0_ n1_ n2_ n3_; clear hb hbox hg) | ((with_reducible refine gate_dst (N := 2) rfl ?_); refine box_event ?hg (N := 2) ?hd (cs := #[.int .i64 0, .slice none 0 0]) (t := 26) ?hr ?_; (case hd => rfl); (case hg => rfl); (case hr => first | (go_simp; done) | (go_simp; rfl)); intro gb102 hg w7 hbox hb; have n0_ := Aside0.mk (blk_below (g := gb101) (o := .cells #[.int .i64 a0_0, .slice A0_1 l0_1.length c0_1] 26 (0, 0)) (by (with_reducible repeat (first | refine blk_drewN ?_ _ | refine blk_drew ?_ | refine blk_alloc ?_ _)); exact BK101.out) hb); have n1_ := Aside0.mk (below_step (by repeat (first | (with_reducible first | exact HB.out | apply below_alloc | apply pw_below_drewN | apply below_drew1 | refine below_set ?_ GE101.out) | exact HB.out)) hb); have n2_ := Aside0.mk (hbox); have n3_ := Aside0.mk ((by rw [hg]; exact (below_size (by repeat (first | (with_reducible first | exact HB.out | apply below_alloc | apply pw_below_drewN | apply below_drew1 | refine below_set ?_ GE101.out) | exact HB.out))) : w.heap.size ≤ gb102)); have n4_ := Aside0.mk ((by rw [hg]; exact (below_size (by repeat (first | (with_reducible first | exact HB.out | apply below_alloc | apply pw_below_drewN | apply below_drew1 | refine below_set ?_ GE101.out) | exact HB.out))) : w.heap.size ≤ gb102)); have n5_ := Aside0.mk ((by rw [hg]; exact Nat.ne_of_lt (blk_lt (g := gb101) (o := .cells #[.int .i64 a0_0, .slice A0_1 l0_1.length c0_1] 26 (0, 0)) (by (with_reducible repeat (first | refine blk_drewN ?_ _ | refine blk_drew ?_ | refine blk_alloc ?_ _)); exact BK101.out)) : gb101 ≠ gb102)); have n6_ := Aside0.mk ((by rw [hg]; exact Nat.ne_of_gt (blk_lt (g := gb101) (o := .cells #[.int .i64 a0_0, .slice A0_1 l0_1.length c0_1] 26 (0, 0)) (by (with_reducible repeat (first | refine blk_drewN ?_ _ | refine blk_drew ?_ | refine blk_alloc ?_ _)); exact BK101.out)) : gb102 ≠ gb101)); clear BK101; clear HB; have BK101 := n0_; have HB := n1_; have BK102 := n2_; have GW102 := n3_; have GE102 := n4_; have NB101_102 := n5_; have NB102_101 := n6_; clear n0_ n1_ n2_ n3_ n4_ n5_ n6_; clear hb hbox hg; have hnb8 := NB101_102.out; have hnc8 := NB102_101.out; have hcz9_0 : w7.cell? ⟨gb101, 0, none⟩ = some (.int .i64 a0_0) := (blk_cell BK101.out 0).trans rfl; have hcz9_1 : w7.cell? ⟨gb101, 1, none⟩ = some (.slice A0_1 l0_1.length c0_1) := (blk_cell BK101.out 1).trans rfl; have hfz9_0 := blk_frozen BK101.out 0; have hfz9_1 := blk_frozen BK101.out 1) | ((with_reducible refine gate_callee (f := 23) rfl ?_); refine goesL_ (some 7) rfl rfl Try.func23 (by kernel_rfl) rfl #[.agg #[.int .i64 a0_0, .slice A0_1 l0_1.length c0_1]] rfl (by (try simp only [List.map_toArray, List.map_cons, List.map_nil]); first | done | rfl | (simp only [List.length_drop, List.length_take]; rfl)) ?_; (with_reducible refine (bitset_May.calls a0_0 _ _ l0_1 true _ ?side1 ?side2 A2.out).mono ?_); (case side1 => repeat (first | exact (Kd.C_below HR0_1.out HB.out) | (with_reducible refine Kd.C_alloc ?_ _) | (with_reducible refine Kd.C_drewN ?_ _) | (with_reducible refine Kd.C_drew ?_))); (case side2 => exact HC0_1.out); rintro e w10 ⟨rfl, hb⟩; refine ⟨_, rfl, ?_⟩; have n0_ := Aside0.mk (blk_below (g := gb101) (o := .cells #[.int .i64 a0_0, .slice A0_1 l0_1.length c0_1] 26 (0, 0)) (by (with_reducible repeat (first | refine blk_drewN ?_ _ | refine blk_drew ?_ | refine blk_alloc ?_ _)); exact BK101.out) hb); have n1_ := Aside0.mk (blk_below (g := gb102) (o := .cells #[.int .i64 0, .slice none 0 0] 26 (0, 0)) (by (with_reducible repeat (first | refine blk_drewN ?_ _ | refine blk_drew ?_ | refine blk_alloc ?_ _)); exact BK102.out) hb); have n2_ := Aside0.mk (below_step (by repeat (first | (with_reducible first | exact HB.out | apply below_alloc | apply pw_below_drewN | apply below_drew1 | refine below_set ?_ GE101.out | refine below_set ?_ GE102.out) | exact HB.out)) hb); clear BK101; clear BK102; clear HB; have BK101 := n0_; have BK102 := n1_; have HB := n2_; clear n0_ n1_ n2_; (try clear hb); (try clear hb2); (try clear hk); (try clear hi); have hcz11_0 : w10.cell? ⟨gb101, 0, none⟩ = some (.int .i64 a0_0) := (blk_cell BK101.out 0).trans rfl; have hcz11_1 : w10.cell? ⟨gb101, 1, none⟩ = some (.slice A0_1 l0_1.length c0_1) := (blk_cell BK101.out 1).trans rfl; have hfz11_0 := blk_frozen BK101.out 0; have hfz11_1 := blk_frozen BK101.out 1) | ((with_reducible refine gate_callee (f := 16) rfl ?_); refine goesL_ (some 15) rfl rfl Try.func16 (by kernel_rfl) rfl #[.int .i64 a0_0, .int .i64 0, .int .i64 a0_0] rfl (by (try simp only [List.map_toArray, List.map_cons, List.map_nil]); first | done | rfl | (simp only [List.length_drop, List.length_take]; rfl)) ?_; (with_reducible refine (bitset_Range.calls k a0_0 0 a0_0 t104 t105 t108 _ A4.out).mono ?_); rintro e w12 ⟨v106, rfl, ho0, hb⟩; refine ⟨_, rfl, ?_⟩; have n0_ := Aside0.mk (Kd.R_lower ho0 (below_size (by repeat (first | (with_reducible first | exact HB.out | apply below_alloc | apply pw_below_drewN | apply below_drew1 | refine below_set ?_ GE101.out | refine below_set ?_ GE102.out) | exact HB.out)))); have n1_ := Aside0.mk (blk_below (g := gb101) (o := .cells #[.int .i64 a0_0, .slice A0_1 l0_1.length c0_1] 26 (0, 0)) (by (with_reducible repeat (first | refine blk_drewN ?_ _ | refine blk_drew ?_ | refine blk_alloc ?_ _)); exact BK101.out) hb); have n2_ := Aside0.mk (blk_below (g := gb102) (o := .cells #[.int .i64 0, .slice none 0 0] 26 (0, 0)) (by (with_reducible repeat (first | refine blk_drewN ?_ _ | refine blk_drew ?_ | refine blk_alloc ?_ _)); exact BK102.out) hb); have n3_ := Aside0.mk (below_step (by repeat (first | (with_reducible first | exact HB.out | apply below_alloc | apply pw_below_drewN | apply below_drew1 | refine below_set ?_ GE101.out | refine below_set ?_ GE102.out) | exact HB.out)) hb); clear BK101; clear BK102; clear HB; have HO107 := n0_; have BK101 := n1_; have BK102 := n2_; have HB := n3_; clear n0_ n1_ n2_ n3_; (try clear hb); (try clear hb2); (try clear hk); (try clear hi); (try clear ho0)) | ((with_reducible refine gate_dst (N := 4) rfl ?_); refine box_event ?hg (N := 4) ?hd (cs := #[.int .i64 0, .slice none 0 0]) (t := 26) ?hr ?_; (case hd => rfl); (case hg => rfl); (case hr => first | (go_simp; done) | (go_simp; rfl)); intro gb109 hg w13 hbox hb; have n0_ := Aside0.mk (Kd.R_below (by (with_reducible repeat (first | apply Kd.R_alloc | apply Kd.R_drewN | apply Kd.R_drew)); exact HO107.out) hb); have n1_ := Aside0.mk (blk_below (g := gb101) (o := .cells #[.int .i64 a0_0, .slice A0_1 l0_1.length c0_1] 26 (0, 0)) (by (with_reducible repeat (first | refine blk_drewN ?_ _ | refine blk_drew ?_ | refine blk_alloc ?_ _)); exact BK101.out) hb); have n2_ := Aside0.mk (blk_below (g := gb102) (o := .cells #[.int .i64 0, .slice none 0 0] 26 (0, 0)) (by (with_reducible repeat (first | refine blk_drewN ?_ _ | refine blk_drew ?_ | refine blk_alloc ?_ _)); exact BK102.out) hb); have n3_ := Aside0.mk (below_step (by repeat (first | (with_reducible first | exact HB.out | apply below_alloc | apply pw_below_drewN | apply below_drew1 | refine below_set ?_ GE101.out | refine below_set ?_ GE102.out) | exact HB.out)) hb); have n4_ := Aside0.mk (hbox); have n5_ := Aside0.mk ((by rw [hg]; exact (below_size (by repeat (first | (with_reducible first | exact HB.out | apply below_alloc | apply pw_below_drewN | apply below_drew1 | refine below_set ?_ GE101.out | refine below_set ?_ GE102.out) | exact HB.out))) : w.heap.size ≤ gb109)); have n6_ := Aside0.mk ((by rw [hg]; exact (below_size (by repeat (first | (with_reducible first | exact HB.out | apply below_alloc | apply pw_below_drewN | apply below_drew1 | refine below_set ?_ GE101.out | refine below_set ?_ GE102.out) | exact HB.out))) : w.heap.size ≤ gb109)); have n7_ := Aside0.mk ((by rw [hg]; exact Nat.ne_of_lt (blk_lt (g := gb101) (o := .cells #[.int .i64 a0_0, .slice A0_1 l0_1.length c0_1] 26 (0, 0)) (by (with_reducible repeat (first | refine blk_drewN ?_ _ | refine blk_drew ?_ | refine blk_alloc ?_ _)); exact BK101.out)) : gb101 ≠ gb109)); have n8_ := Aside0.mk ((by rw [hg]; exact Nat.ne_of_gt (blk_lt (g := gb101) (o := .cells #[.int .i64 a0_0, .slice A0_1 l0_1.length c0_1] 26 (0, 0)) (by (with_reducible repeat (first | refine blk_drewN ?_ _ | refine blk_drew ?_ | refine blk_alloc ?_ _)); exact BK101.out)) : gb109 ≠ gb101)); have n9_ := Aside0.mk ((by rw [hg]; exact Nat.ne_of_lt (blk_lt (g := gb102) (o := .cells #[.int .i64 0, .slice none 0 0] 26 (0, 0)) (by (with_reducible repeat (first | refine blk_drewN ?_ _ | refine blk_drew ?_ | refine blk_alloc ?_ _)); exact BK102.out)) : gb102 ≠ gb109)); have n10_ := Aside0.mk ((by rw [hg]; exact Nat.ne_of_gt (blk_lt (g := gb102) (o := .cells #[.int .i64 0, .slice none 0 0] 26 (0, 0)) (by (with_reducible repeat (first | refine blk_drewN ?_ _ | refine blk_drew ?_ | refine blk_alloc ?_ _)); exact BK102.out)) : gb109 ≠ gb102)); clear HO107; clear BK101; clear BK102; clear HB; have HO107 := n0_; have BK101 := n1_; have BK102 := n2_; have HB := n3_; have BK109 := n4_; have GW109 := n5_; have GE109 := n6_; have NB101_109 := n7_; have NB109_101 := n8_; have NB102_109 := n9_; have NB109_102 := n10_; clear n0_ n1_ n2_ n3_ n4_ n5_ n6_ n7_ n8_ n9_ n10_; clear hb hbox hg; have hnb14 := NB109_101.out; have hnc14 := NB101_109.out; have hnb15 := NB109_102.out; have hnc15 := NB102_109.out; have hcz16_0 : w13.cell? ⟨gb109, 0, none⟩ = some (.int .i64 0) := (blk_cell BK109.out 0).trans rfl; have hcz16_1 : w13.cell? ⟨gb109, 1, none⟩ = some (.slice none 0 0) := (blk_cell BK109.out 1).trans rfl; have hfz16_0 := blk_frozen BK109.out 0; have hfz16_1 := blk_frozen BK109.out 1; obtain ⟨Ao17, co17, eo17⟩ := Kd.R_slice HO107.out; subst eo17) | ((with_reducible refine gate_store (t := 26) (p := 4) rfl ?_); refine store_event (t := 26) (p := 4) (v := ?vo_w18) (w1 := ((w13.setCell ⟨gb109, 0, none⟩ (.int .i64 t104)).setCell ⟨gb109, 1, none⟩ (.slice Ao17 t105.length co17))) ?hg ?ho ?hn ?hr ?_; (case ho => rfl); (case hg => rfl); (case hn => rfl); (case hr => first | (go_simp; done) | (go_simp; rfl)); intro w18 hw; have n0_ : Aside0 (Kd.R (Kd.int .u64) 82 w18 w.heap.size (fun _ => True) (.slice Ao17 t105.length co17) t105) := ⟨(by rw [hw]; exact (by (with_reducible repeat (first | apply Kd.R_alloc | apply Kd.R_drewN | apply Kd.R_drew)); exact Kd.R_mono (Kd.R_far (p := ⟨gb109, 1, none⟩) (Kd.R_far (p := ⟨gb109, 0, none⟩) (Kd.R_types HO107.out BK109.out (by decide)) (fun _ hk => hk.2) (.int .i64 t104)) (fun _ hk => hk.2) (.slice Ao17 t105.length co17)) (fun _ hk => trivial)))⟩; have n1_ : Aside0 (w18.heap[gb101]? = some (.cells #[.int .i64 a0_0, .slice A0_1 l0_1.length c0_1] 26 (0, 0))) := ⟨(by rw [hw]; exact (by (with_reducible repeat (first | refine blk_drewN ?_ _ | refine blk_drew ?_ | refine blk_alloc ?_ _)); refine blk_far ?_ NB101_109.out _; (with_reducible repeat (first | refine blk_drewN ?_ _ | refine blk_drew ?_ | refine blk_alloc ?_ _)); refine blk_far ?_ NB101_109.out _; (with_reducible repeat (first | refine blk_drewN ?_ _ | refine blk_drew ?_ | refine blk_alloc ?_ _)); exact BK101.out))⟩; have n2_ : Aside0 (w18.heap[gb102]? = some (.cells #[.int .i64 0, .slice none 0 0] 26 (0, 0))) := ⟨(by rw [hw]; exact (by (with_reducible repeat (first | refine blk_drewN ?_ _ | refine blk_drew ?_ | refine blk_alloc ?_ _)); refine blk_far ?_ NB102_109.out _; (with_reducible repeat (first | refine blk_drewN ?_ _ | refine blk_drew ?_ | refine blk_alloc ?_ _)); refine blk_far ?_ NB102_109.out _; (with_reducible repeat (first | refine blk_drewN ?_ _ | refine blk_drew ?_ | refine blk_alloc ?_ _)); exact BK102.out))⟩; have n3_ : Aside0 (w18.heap[gb109]? = some (.cells #[.int .i64 t104, .slice Ao17 t105.length co17] 26 (0, 0))) := ⟨(by rw [hw]; exact (by (with_reducible repeat (first | refine blk_drewN ?_ _ | refine blk_drew ?_ | refine blk_alloc ?_ _)); refine blk_put (cs := #[.int .i64 t104, .slice none 0 0]) ?_ 1 _ rfl; (with_reducible repeat (first | refine blk_drewN ?_ _ | refine blk_drew ?_ | refine blk_alloc ?_ _)); refine blk_put (cs := #[.int .i64 0, .slice none 0 0]) ?_ 0 _ rfl; (with_reducible repeat (first | refine blk_drewN ?_ _ | refine blk_drew ?_ | refine blk_alloc ?_ _)); exact BK109.out))⟩; have n4_ : Aside0 (Below w.heap.size w w18) := ⟨(by rw [hw]; exact (by repeat (first | (with_reducible first | exact HB.out | apply below_alloc | apply pw_below_drewN | apply below_drew1 | refine below_set ?_ GE101.out | refine below_set ?_ GE102.out | refine below_set ?_ GE109.out) | exact HB.out)))⟩; clear hw; clear HO107; clear BK101; clear BK102; clear BK109; clear HB; have HO107 := n0_; have BK101 := n1_; have BK102 := n2_; have BK109 := n3_; have HB := n4_; clear n0_ n1_ n2_ n3_ n4_; have hcz19_0 : w18.cell? ⟨gb109, 0, none⟩ = some (.int .i64 t104) := (blk_cell BK109.out 0).trans rfl; have hcz19_1 : w18.cell? ⟨gb109, 1, none⟩ = some (.slice Ao17 t105.length co17) := (blk_cell BK109.out 1).trans rfl; have hfz19_0 := blk_frozen BK109.out 0; have hfz19_1 := blk_frozen BK109.out 1; have hcz20_0 : w18.cell? ⟨gb101, 0, none⟩ = some (.int .i64 a0_0) := (blk_cell BK101.out 0).trans rfl; have hcz20_1 : w18.cell? ⟨gb101, 1, none⟩ = some (.slice A0_1 l0_1.length c0_1) := (blk_cell BK101.out 1).trans rfl; have hfz20_0 := blk_frozen BK101.out 0; have hfz20_1 := blk_frozen BK101.out 1) | ((with_reducible refine gate_callee (f := 78) rfl ?_); refine goesL_ (some 20) rfl rfl Try.func78 (by kernel_rfl) rfl #[.agg #[.int .i64 t104, .slice Ao17 t105.length co17], .agg #[.int .i64 a0_0, .slice A0_1 l0_1.length c0_1], .func (.func 77) #[] #[]] rfl (by (try simp only [List.map_toArray, List.map_cons, List.map_nil]); first | done | rfl | (simp only [List.length_drop, List.length_take]; rfl)) ?_; (with_reducible refine (bitset_two_andNot.calls k t104 _ _ t105 a0_0 (fun k_ => k_ < w.heap.size) _ _ l0_1 () t110 t111 t114 _ ?side1 ?side2 ?side3 A5.out).mono ?_); (case side1 => repeat (first | exact (Kd.R_reads' HO107.out).2.2 | (with_reducible refine Kd.C_alloc ?_ _) | (with_reducible refine Kd.C_drewN ?_ _) | (with_reducible refine Kd.C_drew ?_))); (case side2 => exact (Kd.R_reads' HO107.out).2.1); (case side3 => exact Kd.V_mk HC0_1.out (Kd.F_below (Kd.C_F (Kd.heap_int .u64) HR0_1.out) (by repeat (first | (with_reducible first | exact HB.out | apply below_alloc | apply pw_below_drewN | apply below_drew1 | refine below_set ?_ GE101.out | refine below_set ?_ GE102.out | refine below_set ?_ GE109.out) | exact HB.out)))); rintro e w21 ⟨v112, rfl, ho0, hb⟩; refine ⟨_, rfl, ?_⟩; have n0_ := Aside0.mk (Kd.R_elder' (by (with_reducible repeat (first | apply Kd.R_alloc | apply Kd.R_drewN | apply Kd.R_drew)); exact HO107.out) (Kd.R_base ho0) hb); have n1_ := Aside0.mk (Kd.R_lower (Kd.R_new' (Kd.R_mono (ok' := fun k_ => True) ho0 (fun _ hk_ => trivial)) (Kd.R_lt (by (with_reducible repeat (first | apply Kd.R_alloc | apply Kd.R_drewN | apply Kd.R_drew)); exact HO107.out))) (below_size (by repeat (first | (with_reducible first | exact HB.out | apply below_alloc | apply pw_below_drewN | apply below_drew1 | refine below_set ?_ GE101.out | refine below_set ?_ GE102.out | refine below_set ?_ GE109.out) | exact HB.out)))); have n2_ := Aside0.mk (blk_below (g := gb101) (o := .cells #[.int .i64 a0_0, .slice A0_1 l0_1.length c0_1] 26 (0, 0)) (by (with_reducible repeat (first | refine blk_drewN ?_ _ | refine blk_drew ?_ | refine blk_alloc ?_ _)); exact BK101.out) hb); have n3_ := Aside0.mk (blk_below (g := gb102) (o := .cells #[.int .i64 0, .slice none 0 0] 26 (0, 0)) (by (with_reducible repeat (first | refine blk_drewN ?_ _ | refine blk_drew ?_ | refine blk_alloc ?_ _)); exact BK102.out) hb); have n4_ := Aside0.mk (blk_below (g := gb109) (o := .cells #[.int .i64 t104, .slice Ao17 t105.length co17] 26 (0, 0)) (by (with_reducible repeat (first | refine blk_drewN ?_ _ | refine blk_drew ?_ | refine blk_alloc ?_ _)); exact BK109.out) hb); have n5_ := Aside0.mk (below_step (by repeat (first | (with_reducible first | exact HB.out | apply below_alloc | apply pw_below_drewN | apply below_drew1 | refine below_set ?_ GE101.out | refine below_set ?_ GE102.out | refine below_set ?_ GE109.out) | exact HB.out)) hb); clear HO107; clear BK101; clear BK102; clear BK109; clear HB; have HO107 := n0_; have HO113 := n1_; have BK101 := n2_; have BK102 := n3_; have BK109 := n4_; have HB := n5_; clear n0_ n1_ n2_ n3_ n4_ n5_; (try clear hb); (try clear hb2); (try clear hk); (try clear hi); (try clear ho0); have hcz22_0 : w21.cell? ⟨gb102, 0, none⟩ = some (.int .i64 0) := (blk_cell BK102.out 0).trans rfl; have hcz22_1 : w21.cell? ⟨gb102, 1, none⟩ = some (.slice none 0 0) := (blk_cell BK102.out 1).trans rfl; have hfz22_0 := blk_frozen BK102.out 0; have hfz22_1 := blk_frozen BK102.out 1; obtain ⟨Ao23, co23, eo23⟩ := Kd.R_slice HO113.out; subst eo23))
    refine bodyPost_ret (results_ct rfl _ _ gb102 26 #[.int .i64 t110, .slice Ao23 t111.length co23] (0, 0) _ rfl (by (with_reducible repeat (first | refine blk_drewN ?_ _ | refine blk_drew ?_ | refine blk_alloc ?_ _)); refine blk_put (cs := #[.int .i64 t110, .slice none 0 0]) ?_ 1 _ rfl; (with_reducible repeat (first | refine blk_drewN ?_ _ | refine blk_drew ?_ | refine blk_alloc ?_ _)); refine blk_put (cs := #[.int .i64 0, .slice none 0 0]) ?_ 0 _ rfl; (with_reducible repeat (first | refine blk_drewN ?_ _ | refine blk_drew ?_ | refine blk_alloc ?_ _)); exact BK102.out) Try.underlying26 rfl (by kernel_rfl)) rfl ?_
    exact ⟨_, by first | rfl | (simp [errW_none, errW_some] <;> rfl) | (simp [*, errW_none, errW_some] <;> rfl), by (with_reducible repeat (first | apply Kd.R_alloc | apply Kd.R_drewN | apply Kd.R_drew)); exact Kd.R_mono (Kd.R_far (p := ⟨gb102, 1, none⟩) (Kd.R_far (p := ⟨gb102, 0, none⟩) (Kd.R_types HO113.out BK102.out (by decide)) (fun _ hk => hk.2) (.int .i64 t110)) (fun _ hk => hk.2) (.slice Ao23 t111.length co23)) (fun _ hk => trivial), by repeat (first | (with_reducible first | exact HB.out | apply below_alloc | apply pw_below_drewN | apply below_drew1 | refine below_set ?_ GE101.out | refine below_set ?_ GE102.out | refine below_set ?_ GE109.out) | exact HB.out)⟩
  · replace c3 := Bool.eq_false_iff.mpr c3
    subst c3
    have H1 : (some (0, ([] : List Int), 61)) = some (r1, r2, r3) := by rw [if_neg (show ¬ (false = true) by decide)] at H; exact H
    clear H
    have H := H1
    clear H1
    simp only [Option.some.injEq, Prod.mk.injEq] at H
    obtain ⟨rfl, rfl, rfl⟩ := H
    go_enter Try.func44, Try.ntmps44
    go_wp2_with (first | ((with_reducible refine gate_dst (N := 1) rfl ?_); refine box_event ?hg (N := 1) ?hd (cs := #[.int .i64 a0_0, .slice A0_1 l0_1.length c0_1]) (t := 26) ?hr ?_; (case hd => rfl); (case hg => rfl); (case hr => first | (go_simp; done) | (go_simp; rfl)); intro gb101 hg w24 hbox hb; have n0_ := Aside0.mk (below_step (by repeat (first | (with_reducible first | exact HB.out | apply below_alloc | apply pw_below_drewN | apply below_drew1) | exact HB.out)) hb); have n1_ := Aside0.mk (hbox); have n2_ := Aside0.mk ((by rw [hg]; exact (below_size (by repeat (first | (with_reducible first | exact HB.out | apply below_alloc | apply pw_below_drewN | apply below_drew1) | exact HB.out))) : w.heap.size ≤ gb101)); have n3_ := Aside0.mk ((by rw [hg]; exact (below_size (by repeat (first | (with_reducible first | exact HB.out | apply below_alloc | apply pw_below_drewN | apply below_drew1) | exact HB.out))) : w.heap.size ≤ gb101)); clear HB; have HB := n0_; have BK101 := n1_; have GW101 := n2_; have GE101 := n3_; clear n0_ n1_ n2_ n3_; clear hb hbox hg) | ((with_reducible refine gate_dst (N := 2) rfl ?_); refine box_event ?hg (N := 2) ?hd (cs := #[.int .i64 0, .slice none 0 0]) (t := 26) ?hr ?_; (case hd => rfl); (case hg => rfl); (case hr => first | (go_simp; done) | (go_simp; rfl)); intro gb102 hg w25 hbox hb; have n0_ := Aside0.mk (blk_below (g := gb101) (o := .cells #[.int .i64 a0_0, .slice A0_1 l0_1.length c0_1] 26 (0, 0)) (by (with_reducible repeat (first | refine blk_drewN ?_ _ | refine blk_drew ?_ | refine blk_alloc ?_ _)); exact BK101.out) hb); have n1_ := Aside0.mk (below_step (by repeat (first | (with_reducible first | exact HB.out | apply below_alloc | apply pw_below_drewN | apply below_drew1 | refine below_set ?_ GE101.out) | exact HB.out)) hb); have n2_ := Aside0.mk (hbox); have n3_ := Aside0.mk ((by rw [hg]; exact (below_size (by repeat (first | (with_reducible first | exact HB.out | apply below_alloc | apply pw_below_drewN | apply below_drew1 | refine below_set ?_ GE101.out) | exact HB.out))) : w.heap.size ≤ gb102)); have n4_ := Aside0.mk ((by rw [hg]; exact (below_size (by repeat (first | (with_reducible first | exact HB.out | apply below_alloc | apply pw_below_drewN | apply below_drew1 | refine below_set ?_ GE101.out) | exact HB.out))) : w.heap.size ≤ gb102)); have n5_ := Aside0.mk ((by rw [hg]; exact Nat.ne_of_lt (blk_lt (g := gb101) (o := .cells #[.int .i64 a0_0, .slice A0_1 l0_1.length c0_1] 26 (0, 0)) (by (with_reducible repeat (first | refine blk_drewN ?_ _ | refine blk_drew ?_ | refine blk_alloc ?_ _)); exact BK101.out)) : gb101 ≠ gb102)); have n6_ := Aside0.mk ((by rw [hg]; exact Nat.ne_of_gt (blk_lt (g := gb101) (o := .cells #[.int .i64 a0_0, .slice A0_1 l0_1.length c0_1] 26 (0, 0)) (by (with_reducible repeat (first | refine blk_drewN ?_ _ | refine blk_drew ?_ | refine blk_alloc ?_ _)); exact BK101.out)) : gb102 ≠ gb101)); clear BK101; clear HB; have BK101 := n0_; have HB := n1_; have BK102 := n2_; have GW102 := n3_; have GE102 := n4_; have NB101_102 := n5_; have NB102_101 := n6_; clear n0_ n1_ n2_ n3_ n4_ n5_ n6_; clear hb hbox hg; have hnb26 := NB101_102.out; have hnc26 := NB102_101.out; have hcz27_0 : w25.cell? ⟨gb101, 0, none⟩ = some (.int .i64 a0_0) := (blk_cell BK101.out 0).trans rfl; have hcz27_1 : w25.cell? ⟨gb101, 1, none⟩ = some (.slice A0_1 l0_1.length c0_1) := (blk_cell BK101.out 1).trans rfl; have hfz27_0 := blk_frozen BK101.out 0; have hfz27_1 := blk_frozen BK101.out 1) | ((with_reducible refine gate_callee (f := 23) rfl ?_); refine goesL_ (some 7) rfl rfl Try.func23 (by kernel_rfl) rfl #[.agg #[.int .i64 a0_0, .slice A0_1 l0_1.length c0_1]] rfl (by (try simp only [List.map_toArray, List.map_cons, List.map_nil]); first | done | rfl | (simp only [List.length_drop, List.length_take]; rfl)) ?_; (with_reducible refine (bitset_May.calls a0_0 _ _ l0_1 false _ ?side1 ?side2 A2.out).mono ?_); (case side1 => repeat (first | exact (Kd.C_below HR0_1.out HB.out) | (with_reducible refine Kd.C_alloc ?_ _) | (with_reducible refine Kd.C_drewN ?_ _) | (with_reducible refine Kd.C_drew ?_))); (case side2 => exact HC0_1.out); rintro e w28 ⟨rfl, hb⟩; refine ⟨_, rfl, ?_⟩; have n0_ := Aside0.mk (blk_below (g := gb101) (o := .cells #[.int .i64 a0_0, .slice A0_1 l0_1.length c0_1] 26 (0, 0)) (by (with_reducible repeat (first | refine blk_drewN ?_ _ | refine blk_drew ?_ | refine blk_alloc ?_ _)); exact BK101.out) hb); have n1_ := Aside0.mk (blk_below (g := gb102) (o := .cells #[.int .i64 0, .slice none 0 0] 26 (0, 0)) (by (with_reducible repeat (first | refine blk_drewN ?_ _ | refine blk_drew ?_ | refine blk_alloc ?_ _)); exact BK102.out) hb); have n2_ := Aside0.mk (below_step (by repeat (first | (with_reducible first | exact HB.out | apply below_alloc | apply pw_below_drewN | apply below_drew1 | refine below_set ?_ GE101.out | refine below_set ?_ GE102.out) | exact HB.out)) hb); clear BK101; clear BK102; clear HB; have BK101 := n0_; have BK102 := n1_; have HB := n2_; clear n0_ n1_ n2_; (try clear hb); (try clear hb2); (try clear hk); (try clear hi); have hcz29_0 : w28.cell? ⟨gb102, 0, none⟩ = some (.int .i64 0) := (blk_cell BK102.out 0).trans rfl; have hcz29_1 : w28.cell? ⟨gb102, 1, none⟩ = some (.slice none 0 0) := (blk_cell BK102.out 1).trans rfl; have hfz29_0 := blk_frozen BK102.out 0; have hfz29_1 := blk_frozen BK102.out 1))
    refine bodyPost_ret (results_ct rfl _ _ gb102 26 #[.int .i64 0, .slice none 0 0] (0, 0) _ rfl (by (with_reducible repeat (first | refine blk_drewN ?_ _ | refine blk_drew ?_ | refine blk_alloc ?_ _)); refine blk_put (cs := #[.int .i64 0, .slice none 0 0]) ?_ 1 _ rfl; (with_reducible repeat (first | refine blk_drewN ?_ _ | refine blk_drew ?_ | refine blk_alloc ?_ _)); refine blk_put (cs := #[.int .i64 0, .slice none 0 0]) ?_ 0 _ rfl; (with_reducible repeat (first | refine blk_drewN ?_ _ | refine blk_drew ?_ | refine blk_alloc ?_ _)); exact BK102.out) Try.underlying26 rfl (by kernel_rfl)) rfl ?_
    exact ⟨_, by first | rfl | (simp [errW_none, errW_some] <;> rfl) | (simp [*, errW_none, errW_some] <;> rfl), by first | exact Kd.R_nil _ _ _ _ _ | exact Kd.N_nil _ _ _ _ _ | exact Kd.V_nil _ _ _ _ _ | exact Kd.Q_nil _ _ _ _ _ | exact Kd.S_nil _ _ _ _ _, by repeat (first | (with_reducible first | exact HB.out | apply below_alloc | apply pw_below_drewN | apply below_drew1 | refine below_set ?_ GE101.out | refine below_set ?_ GE102.out) | exact HB.out)⟩
end Go.Proofs.Ytjmkhdhffmlhiaa.PAll
end
section
namespace Go.Proofs.Ytjmkhdhffmlhiaa.PAll
open Go.RowKit Go.Proofs.YtjmkhdhffmlhiaaW.PrintWords Go.Proofs.YtjmkhdhffmlhiaaW.PrintLast Go.Proofs.YtjmkhdhffmlhiaaW.PrintMore
attribute [local go_sem] max2_int min2_int max_two min_two max_three min_three max_four min_four w64_u8 w64_mod256   -- for this text's walks alone
set_option linter.unusedVariables false
set_option linter.unusedSimpArgs false
end Go.Proofs.Ytjmkhdhffmlhiaa.PAll
end
section
namespace Go.Proofs.Ytjmkhdhffmlhiaa.PAll
open Go.RowKit Go.Proofs.YtjmkhdhffmlhiaaW.PrintWords Go.Proofs.YtjmkhdhffmlhiaaW.PrintLast Go.Proofs.YtjmkhdhffmlhiaaW.PrintMore
attribute [local go_sem] max2_int min2_int max_two min_two max_three min_three max_four min_four w64_u8 w64_mod256   -- for this text's walks alone
set_option linter.unusedVariables false
set_option linter.unusedSimpArgs false
end Go.Proofs.Ytjmkhdhffmlhiaa.PAll
end
section
namespace Go.Proofs.Ytjmkhdhffmlhiaa.PAll
open Go.RowKit Go.Proofs.YtjmkhdhffmlhiaaW.PrintWords Go.Proofs.YtjmkhdhffmlhiaaW.PrintLast Go.Proofs.YtjmkhdhffmlhiaaW.PrintMore
attribute [local go_sem] max2_int min2_int max_two min_two max_three min_three max_four min_four w64_u8 w64_mod256   -- for this text's walks alone
set_option linter.unusedVariables false
set_option linter.unusedSimpArgs false
end Go.Proofs.Ytjmkhdhffmlhiaa.PAll
end
section
namespace Go.Proofs.Ytjmkhdhffmlhiaa.PAll
open Go.RowKit Go.Proofs.YtjmkhdhffmlhiaaW.PrintWords Go.Proofs.YtjmkhdhffmlhiaaW.PrintLast Go.Proofs.YtjmkhdhffmlhiaaW.PrintMore
attribute [local go_sem] max2_int min2_int max_two min_two max_three min_three max_four min_four w64_u8 w64_mod256   -- for this text's walks alone
set_option linter.unusedVariables false
set_option linter.unusedSimpArgs false
end Go.Proofs.Ytjmkhdhffmlhiaa.PAll
end
section
namespace Go.Proofs.Ytjmkhdhffmlhiaa.PAll
set_option linter.unusedVariables false
open Go.RowKit Go.Proofs.YtjmkhdhffmlhiaaW.PrintWords Go.Proofs.YtjmkhdhffmlhiaaW.PrintMore
def RestSays (a : Int) (la : List Int) (r : Int × List Int × Int) : Prop :=
  (¬ MayP a la ∧ r = (0, [], 61)) ∨ (MayP a la ∧ ∃ vs, Is a.toNat (fun d => !hb la d) vs ∧ r = (a, vs, 0))
theorem RestSays.eq {a : Int} {la : List Int} {r q : Int × List Int × Int} (h : RestSays a la r) (k : RestSays a la q) : r = q := by
  rcases h with ⟨h1, rfl⟩ | ⟨h1, vs, h4, rfl⟩ <;> rcases k with ⟨k1, rfl⟩ | ⟨k1, us, k4, rfl⟩
  · rfl
  · exact absurd k1 h1
  · exact absurd h1 k1
  · rw [h4.eq k4 (fun _ _ => rfl)]
theorem RestSays.bound {a : Int} {la : List Int} {s : Int} {vs : List Int} {c : Int} (h : RestSays a la (s, vs, c)) : vs.length ≤ 9223372036854775807 := by
  rcases h with ⟨_, e⟩ | ⟨h1, us, h4, e⟩
  · cases e; simp
  · cases e; have := h1.2.1; rw [h4.len]; omega
theorem Rest_eq (a : Int) (la : List Int) (hwa : Wds la) (hla : la.length ≤ 9223372036854775807) : ∃ r, RestSays a la r ∧ Ev (fun k => bitset_Rest.f k a la) r := by
  have ma := May_eq a la hwa hla
  by_cases h1 : MayP a la
  · rw [may_true.2 h1] at ma
    obtain ⟨n, rfl⟩ := Int.eq_ofNat_of_zero_le h1.1
    have hn : n ≤ 4096 := by have := h1.2.1; omega
    obtain ⟨r, k1, K1, k2⟩ := Range_eq (n : Int) 0 (n : Int) (by omega)
    obtain ⟨vs, k3, rfl⟩ : ∃ vs, Is n (fun _ => true) vs ∧ r = ((n : Int), vs, 0) := by
      rcases k1 with ⟨k1, _⟩ | ⟨_, _, vs, k3, rfl⟩
      · omega
      · refine ⟨vs, ?_, rfl⟩
        rw [Int.toNat_natCast] at k3
        refine k3.congr fun d hd => ?_
        simp; omega
    have h5 := k3.may hn
    obtain ⟨r, t1, K2, t2⟩ := two_andNot_eq (n : Int) vs (n : Int) la k3.wds hwa (by have := k3.len; omega) hla
    obtain ⟨us, u1, rfl⟩ : ∃ us, Is n (fun d => !hb la d) us ∧ r = ((n : Int), us, 0) := by
      rcases t1 with ⟨t1, _⟩ | ⟨_, _, ⟨t1, _⟩ | ⟨_, us, u1, rfl⟩⟩
      · exact absurd ⟨h5, h1⟩ t1
      · exact absurd rfl t1
      · refine ⟨us, ?_, rfl⟩
        rw [Int.toNat_natCast] at u1
        refine u1.congr fun d hd => ?_
        rw [k3.has]; simp [hd]
    refine ⟨((n : Int), us, 0), .inr ⟨h1, us, by simpa using u1, rfl⟩, K1 + K2, fun k hk => ?_⟩
    have k2' := k2 k (by omega)
    have t2' := t2 k (by omega)
    dsimp only at k2' t2' ⊢
    unfold bitset_Rest.f
    rw [ma, Option.bind_some, if_pos rfl, k2', Option.bind_some, t2', Option.bind_some]
  · rw [may_false.2 h1] at ma
    refine ⟨(0, [], 61), .inl ⟨h1, rfl⟩, Ev.const fun k => ?_⟩
    unfold bitset_Rest.f
    rw [ma, Option.bind_some, if_neg (by simp)]
theorem CmpSays.eq {a b r q : Int} {la lb : List Int} (h : CmpSays a la b lb r) (k : CmpSays a la b lb q) : r = q := by
  rcases h with ⟨h1, rfl⟩ | ⟨h1, h2, h3⟩ <;> rcases k with ⟨k1, rfl⟩ | ⟨k1, k2, k3⟩
  · rfl
  · exact absurd ⟨k1, k2⟩ h1
  · exact absurd ⟨h1, h2⟩ k1
  · rcases h3 with ⟨h3, rfl⟩ | ⟨h3, rfl⟩ | ⟨h3, h4⟩ <;> rcases k3 with ⟨k3, rfl⟩ | ⟨k3, rfl⟩ | ⟨k3, k4⟩ <;> first | rfl | omega | skip
    rcases h4 with ⟨rfl, h4⟩ | ⟨rfl, h4⟩ | ⟨rfl, h4⟩ <;> rcases k4 with ⟨rfl, k4⟩ | ⟨rfl, k4⟩ | ⟨rfl, k4⟩ <;> first
      | rfl
      | exact (Lt.irrefl (Lt.trans h4 k4)).elim
      | exact (Lt.irrefl (Lt.congr k4 (fun d _ => h4 d) (fun _ _ => rfl))).elim
      | exact (Lt.irrefl (Lt.congr k4 (fun _ _ => rfl) (fun d _ => h4 d))).elim
      | exact (Lt.irrefl (Lt.congr h4 (fun d _ => k4 d) (fun _ _ => rfl))).elim
      | exact (Lt.irrefl (Lt.congr h4 (fun _ _ => rfl) (fun d _ => k4 d))).elim
end Go.Proofs.Ytjmkhdhffmlhiaa.PAll
end
section
namespace Go.Proofs.Ytjmkhdhffmlhiaa.PAll
open Go.RowKit Go.Proofs.YtjmkhdhffmlhiaaW.PrintWords Go.Proofs.YtjmkhdhffmlhiaaW.PrintLast Go.Proofs.YtjmkhdhffmlhiaaW.PrintMore
attribute [local go_sem] max2_int min2_int max_two min_two max_three min_three max_four min_four w64_u8 w64_mod256   -- for this text's walks alone
set_option linter.unusedVariables false
set_option linter.unusedSimpArgs false
def bitset_Union.f (k : Nat) (a0 : Int) (l1 : List (S26)) : Option (Int × List Int × Int) := (bitset_fit.f k a0 l1).bind fun t102 => (if t102 = 0 then ((bitset_blank.f a0).bind fun bt103 => ((bitset_fold_or.f bt103.1 bt103.2 l1 ()).bind fun bt107 => (some (bt107.1, bt107.2, 0)))) else (some (0, ([] : List Int), t102)))
set_option maxHeartbeats 8000000 in
set_option maxRecDepth 100000 in
theorem bitset_Union.calls (k : Nat) (a0 : Int) (A1 : Option Addr) (c1 : Nat) (l1 : List (S26)) (r1 : Int) (r2 : List Int) (r3 : Int) (w : World) (hr1 : Kd.C k26 w A1 l1.length l1) (hc1 : l1.length ≤ c1) (h : bitset_Union.f k a0 l1 = some (r1, r2, r3)) :
    Calls Try.prog 32 #[.int .i64 a0, .slice A1 l1.length c1] w fun e w' => ∃ v1_ : Value, e = .returned (.tuple #[.agg #[.int .i64 r1, v1_], .int .i64 r3]) ∧ Kd.R (Kd.int .u64) 82 w' w.heap.size (fun _ => True) v1_ r2 ∧ Below w.heap.size w w' := by
  have hu26 := Try.underlying26
  have HR1 := Aside0.mk hr1
  have HC1 := Aside0.mk hc1
  clear hr1 hc1
  have HB := Aside0.mk (Below.refl w.heap.size w)
  have H : ((bitset_fit.f k a0 l1).bind fun t102 => (if t102 = 0 then ((bitset_blank.f a0).bind fun bt103 => ((bitset_fold_or.f bt103.1 bt103.2 l1 ()).bind fun bt107 => (some (bt107.1, bt107.2, 0)))) else (some (0, ([] : List Int), t102)))) = some (r1, r2, r3) := h
  clear h
  replace H := Option.bind_eq_some_iff.mp H
  obtain ⟨t102, A30, H⟩ := H
  replace H : (if t102 = 0 then ((bitset_blank.f a0).bind fun bt103 => ((bitset_fold_or.f bt103.1 bt103.2 l1 ()).bind fun bt107 => (some (bt107.1, bt107.2, 0)))) else (some (0, ([] : List Int), t102))) = some (r1, r2, r3) := H
  have A3 := Aside0.mk A30
  clear A30
  by_cases c4 : t102 = 0
  · rw [if_pos c4] at H
    have c4b0 : (t102 == 0) = true := beq_iff_eq.mpr c4
    have c4b1 : (t102 != 0) = false := bne_eq_false_iff_eq.mpr c4
    clear c4
    replace H := Option.bind_eq_some_iff.mp H
    obtain ⟨⟨t103, t104⟩, A50, H⟩ := H
    replace H : ((bitset_fold_or.f t103 t104 l1 ()).bind fun bt107 => (some (bt107.1, bt107.2, 0))) = some (r1, r2, r3) := H
    have A5 := Aside0.mk A50
    clear A50
    replace H := Option.bind_eq_some_iff.mp H
    obtain ⟨⟨t107, t108⟩, A60, H⟩ := H
    replace H : (some (t107, t108, 0)) = some (r1, r2, r3) := H
    have A6 := Aside0.mk A60
    clear A60
    simp only [Option.some.injEq, Prod.mk.injEq] at H
    obtain ⟨rfl, rfl, rfl⟩ := H
    go_enter Try.func32, Try.ntmps32
    go_wp2_with (first | ((with_reducible refine gate_dst (N := 4) rfl ?_); refine box_event ?hg (N := 4) ?hd (cs := #[.int .i64 0, .slice none 0 0]) (t := 26) ?hr ?_; (case hd => rfl); (case hg => rfl); (case hr => first | (go_simp; done) | (go_simp; rfl)); intro gb101 hg w7 hbox hb; have n0_ := Aside0.mk (below_step (by repeat (first | (with_reducible first | exact HB.out | apply below_alloc | apply pw_below_drewN | apply below_drew1) | exact HB.out)) hb); have n1_ := Aside0.mk (hbox); have n2_ := Aside0.mk ((by rw [hg]; exact (below_size (by repeat (first | (with_reducible first | exact HB.out | apply below_alloc | apply pw_below_drewN | apply below_drew1) | exact HB.out))) : w.heap.size ≤ gb101)); have n3_ := Aside0.mk ((by rw [hg]; exact (below_size (by repeat (first | (with_reducible first | exact HB.out | apply below_alloc | apply pw_below_drewN | apply below_drew1) | exact HB.out))) : w.heap.size ≤ gb101)); clear HB; have HB := n0_; have BK101 := n1_; have GW101 := n2_; have GE101 := n3_; clear n0_ n1_ n2_ n3_; clear hb hbox hg) | ((with_reducible refine gate_callee (f := 65) rfl ?_); refine goesL_ (some 9) rfl rfl Try.func65 (by kernel_rfl) rfl #[.int .i64 a0, .slice A1 l1.length c1] rfl (by (try simp only [List.map_toArray, List.map_cons, List.map_nil]); first | done | rfl | (simp only [List.length_drop, List.length_take]; rfl)) ?_; (with_reducible refine (bitset_fit.calls k a0 _ _ l1 t102 _ ?side1 ?side2 A3.out).mono ?_); (case side1 => repeat (first | exact (Kd.C_below HR1.out HB.out) | (with_reducible refine Kd.C_alloc ?_ _) | (with_reducible refine Kd.C_drewN ?_ _) | (with_reducible refine Kd.C_drew ?_))); (case side2 => exact HC1.out); rintro e w8 ⟨rfl, hb⟩; refine ⟨_, rfl, ?_⟩; have n0_ := Aside0.mk (blk_below (g := gb101) (o := .cells #[.int .i64 0, .slice none 0 0] 26 (0, 0)) (by (with_reducible repeat (first | refine blk_drewN ?_ _ | refine blk_drew ?_ | refine blk_alloc ?_ _)); exact BK101.out) hb); have n1_ := Aside0.mk (below_step (by repeat (first | (with_reducible first | exact HB.out | apply below_alloc | apply pw_below_drewN | apply below_drew1 | refine below_set ?_ GE101.out) | exact HB.out)) hb); clear BK101; clear HB; have BK101 := n0_; have HB := n1_; clear n0_ n1_; (try clear hb); (try clear hb2); (try clear hk); (try clear hi)) | ((with_reducible refine gate_callee (f := 56) rfl ?_); refine goesL_ (some 15) rfl rfl Try.func56 (by kernel_rfl) rfl #[.int .i64 a0] rfl (by (try simp only [List.map_toArray, List.map_cons, List.map_nil]); first | done | rfl | (simp only [List.length_drop, List.length_take]; rfl)) ?_; (with_reducible refine (bitset_blank.calls a0 t103 t104 _ A5.out).mono ?_); rintro e w9 ⟨v105, rfl, ho0, hb⟩; refine ⟨_, rfl, ?_⟩; have n0_ := Aside0.mk (Kd.R_lower ho0 (below_size (by repeat (first | (with_reducible first | exact HB.out | apply below_alloc | apply pw_below_drewN | apply below_drew1 | refine below_set ?_ GE101.out) | exact HB.out)))); have n1_ := Aside0.mk (blk_below (g := gb101) (o := .cells #[.int .i64 0, .slice none 0 0] 26 (0, 0)) (by (with_reducible repeat (first | refine blk_drewN ?_ _ | refine blk_drew ?_ | refine blk_alloc ?_ _)); exact BK101.out) hb); have n2_ := Aside0.mk (below_step (by repeat (first | (with_reducible first | exact HB.out | apply below_alloc | apply pw_below_drewN | apply below_drew1 | refine below_set ?_ GE101.out) | exact HB.out)) hb); clear BK101; clear HB; have HO106 := n0_; have BK101 := n1_; have HB := n2_; clear n0_ n1_ n2_; (try clear hb); (try clear hb2); (try clear hk); (try clear hi); (try clear ho0); obtain ⟨Ao10, co10, eo10⟩ := Kd.R_slice HO106.out; subst eo10) | ((with_reducible refine gate_callee (f := 68) rfl ?_); refine goesL_ (some 17) rfl rfl Try.func68 (by kernel_rfl) rfl #[.agg #[.int .i64 t103, .slice Ao10 t104.length co10], .slice A1 l1.length c1, .func (.func 69) #[] #[]] rfl (by (try simp only [List.map_toArray, List.map_cons, List.map_nil]); first | done | rfl | (simp only [List.length_drop, List.length_take]; rfl)) ?_; (with_reducible refine (bitset_fold_or.calls t103 (fun k_ => some k_ = (.slice Ao10 t104.length co10 : Value).ownBlock) (.slice Ao10 t104.length co10) t104 _ _ l1 () t107 t108 w _ ?side1 ?side2 ?side3 ?side4 A6.out).mono ?_); (case side1 => repeat (first | (with_reducible first | exact HB.out | apply below_alloc | apply pw_below_drewN | apply below_drew1 | refine below_set ?_ GE101.out) | exact HB.out)); (case side2 => exact Kd.R_tight rfl HO106.out); (case side3 => exact Kd.C_kept_came k26_heap HR1.out (by repeat (first | (with_reducible first | exact HB.out | apply below_alloc | apply pw_below_drewN | apply below_drew1 | refine below_set ?_ GE101.out) | exact HB.out)) (fun k_ hs_ => (fun e_ => Kd.R_base HO106.out k_ e_.symm) hs_)); (case side4 => exact HC1.out); rintro e w11 ⟨v109, rfl, ho0, hb, hkp⟩; refine ⟨_, rfl, ?_⟩; have n0_ := Aside0.mk (blk_kept (by (with_reducible repeat (first | refine blk_drewN ?_ _ | refine blk_drew ?_ | refine blk_alloc ?_ _)); exact BK101.out) hkp (fun hs_ => (fun e_ => (Kd.R_ne HO106.out BK101.out (by decide)) e_) hs_)); have n1_ := Aside0.mk (Kd.R_mono (ok' := fun k_ => True) ho0 (fun k_ hk_ => trivial)); have n2_ := Aside0.mk (hb); clear BK101; clear HB; clear HO106; have BK101 := n0_; have HO110 := n1_; have HB := n2_; clear n0_ n1_ n2_; (try clear hb); (try clear hkp); (try clear ho0); have hcz12_0 : w11.cell? ⟨gb101, 0, none⟩ = some (.int .i64 0) := (blk_cell BK101.out 0).trans rfl; have hcz12_1 : w11.cell? ⟨gb101, 1, none⟩ = some (.slice none 0 0) := (blk_cell BK101.out 1).trans rfl; have hfz12_0 := blk_frozen BK101.out 0; have hfz12_1 := blk_frozen BK101.out 1; obtain ⟨Ao13, co13, eo13⟩ := Kd.R_slice HO110.out; subst eo13))
    refine bodyPost_ret (results_ct rfl _ _ gb101 26 #[.int .i64 t107, .slice Ao13 t108.length co13] (0, 0) _ rfl (by (with_reducible repeat (first | refine blk_drewN ?_ _ | refine blk_drew ?_ | refine blk_alloc ?_ _)); refine blk_put (cs := #[.int .i64 t107, .slice none 0 0]) ?_ 1 _ rfl; (with_reducible repeat (first | refine blk_drewN ?_ _ | refine blk_drew ?_ | refine blk_alloc ?_ _)); refine blk_put (cs := #[.int .i64 0, .slice none 0 0]) ?_ 0 _ rfl; (with_reducible repeat (first | refine blk_drewN ?_ _ | refine blk_drew ?_ | refine blk_alloc ?_ _)); exact BK101.out) Try.underlying26 rfl (by kernel_rfl)) rfl ?_
    exact ⟨_, by first | rfl | (simp [errW_none, errW_some] <;> rfl) | (simp [*, errW_none, errW_some] <;> rfl), by (with_reducible repeat (first | apply Kd.R_alloc | apply Kd.R_drewN | apply Kd.R_drew)); exact Kd.R_mono (Kd.R_far (p := ⟨gb101, 1, none⟩) (Kd.R_far (p := ⟨gb101, 0, none⟩) (Kd.R_types HO110.out BK101.out (by decide)) (fun _ hk => hk.2) (.int .i64 t107)) (fun _ hk => hk.2) (.slice Ao13 t108.length co13)) (fun _ hk => trivial), by repeat (first | (with_reducible first | exact HB.out | apply below_alloc | apply pw_below_drewN | apply below_drew1 | refine below_set ?_ GE101.out) | exact HB.out)⟩
  · rw [if_neg c4] at H
    have c4b0 : (t102 == 0) = false := beq_eq_false_iff_ne.mpr c4
    have c4b1 : (t102 != 0) = true := bne_iff_ne.mpr c4
    simp only [Option.some.injEq, Prod.mk.injEq] at H
    obtain ⟨rfl, rfl, rfl⟩ := H
    go_enter Try.func32, Try.ntmps32
    go_wp2_with (first | ((with_reducible refine gate_dst (N := 4) rfl ?_); refine box_event ?hg (N := 4) ?hd (cs := #[.int .i64 0, .slice none 0 0]) (t := 26) ?hr ?_; (case hd => rfl); (case hg => rfl); (case hr => first | (go_simp; done) | (go_simp; rfl)); intro gb101 hg w14 hbox hb; have n0_ := Aside0.mk (below_step (by repeat (first | (with_reducible first | exact HB.out | apply below_alloc | apply pw_below_drewN | apply below_drew1) | exact HB.out)) hb); have n1_ := Aside0.mk (hbox); have n2_ := Aside0.mk ((by rw [hg]; exact (below_size (by repeat (first | (with_reducible first | exact HB.out | apply below_alloc | apply pw_below_drewN | apply below_drew1) | exact HB.out))) : w.heap.size ≤ gb101)); have n3_ := Aside0.mk ((by rw [hg]; exact (below_size (by repeat (first | (with_reducible first | exact HB.out | apply below_alloc | apply pw_below_drewN | apply below_drew1) | exact HB.out))) : w.heap.size ≤ gb101)); clear HB; have HB := n0_; have BK101 := n1_; have GW101 := n2_; have GE101 := n3_; clear n0_ n1_ n2_ n3_; clear hb hbox hg) | ((with_reducible refine gate_callee (f := 65) rfl ?_); refine goesL_ (some 9) rfl rfl Try.func65 (by kernel_rfl) rfl #[.int .i64 a0, .slice A1 l1.length c1] rfl (by (try simp only [List.map_toArray, List.map_cons, List.map_nil]); first | done | rfl | (simp only [List.length_drop, List.length_take]; rfl)) ?_; (with_reducible refine (bitset_fit.calls k a0 _ _ l1 t102 _ ?side1 ?side2 A3.out).mono ?_); (case side1 => repeat (first | exact (Kd.C_below HR1.out HB.out) | (with_reducible refine Kd.C_alloc ?_ _) | (with_reducible refine Kd.C_drewN ?_ _) | (with_reducible refine Kd.C_drew ?_))); (case side2 => exact HC1.out); rintro e w15 ⟨rfl, hb⟩; refine ⟨_, rfl, ?_⟩; have n0_ := Aside0.mk (blk_below (g := gb101) (o := .cells #[.int .i64 0, .slice none 0 0] 26 (0, 0)) (by (with_reducible repeat (first | refine blk_drewN ?_ _ | refine blk_drew ?_ | refine blk_alloc ?_ _)); exact BK101.out) hb); have n1_ := Aside0.mk (below_step (by repeat (first | (with_reducible first | exact HB.out | apply below_alloc | apply pw_below_drewN | apply below_drew1 | refine below_set ?_ GE101.out) | exact HB.out)) hb); clear BK101; clear HB; have BK101 := n0_; have HB := n1_; clear n0_ n1_; (try clear hb); (try clear hb2); (try clear hk); (try clear hi); have hcz16_0 : w15.cell? ⟨gb101, 0, none⟩ = some (.int .i64 0) := (blk_cell BK101.out 0).trans rfl; have hcz16_1 : w15.cell? ⟨gb101, 1, none⟩ = some (.slice none 0 0) := (blk_cell BK101.out 1).trans rfl; have hfz16_0 := blk_frozen BK101.out 0; have hfz16_1 := blk_frozen BK101.out 1))
    refine bodyPost_ret (results_ct rfl _ _ gb101 26 #[.int .i64 0, .slice none 0 0] (0, 0) _ rfl (by (with_reducible repeat (first | refine blk_drewN ?_ _ | refine blk_drew ?_ | refine blk_alloc ?_ _)); refine blk_put (cs := #[.int .i64 0, .slice none 0 0]) ?_ 1 _ rfl; (with_reducible repeat (first | refine blk_drewN ?_ _ | refine blk_drew ?_ | refine blk_alloc ?_ _)); refine blk_put (cs := #[.int .i64 0, .slice none 0 0]) ?_ 0 _ rfl; (with_reducible repeat (first | refine blk_drewN ?_ _ | refine blk_drew ?_ | refine blk_alloc ?_ _)); exact BK101.out) Try.underlying26 rfl (by kernel_rfl)) rfl ?_
    exact ⟨_, by first | rfl | (simp [errW_none, errW_some] <;> rfl) | (simp [*, errW_none, errW_some] <;> rfl), by first | exact Kd.R_nil _ _ _ _ _ | exact Kd.N_nil _ _ _ _ _ | exact Kd.V_nil _ _ _ _ _ | exact Kd.Q_nil _ _ _ _ _ | exact Kd.S_nil _ _ _ _ _, by repeat (first | (with_reducible first | exact HB.out | apply below_alloc | apply pw_below_drewN | apply below_drew1 | refine below_set ?_ GE101.out) | exact HB.out)⟩
end Go.Proofs.Ytjmkhdhffmlhiaa.PAll
end
section
namespace Go.Proofs.Ytjmkhdhffmlhiaa.PAll
open Go.RowKit Go.Proofs.YtjmkhdhffmlhiaaW.PrintWords Go.Proofs.YtjmkhdhffmlhiaaW.PrintLast Go.Proofs.YtjmkhdhffmlhiaaW.PrintMore
attribute [local go_sem] max2_int min2_int max_two min_two max_three min_three max_four min_four w64_u8 w64_mod256   -- for this text's walks alone
set_option linter.unusedVariables false
set_option linter.unusedSimpArgs false
def bitset_Inter.f (k : Nat) (a0 : Int) (l1 : List (S26)) : Option (Int × List Int × Int) := (bitset_fit.f k a0 l1).bind fun t102 => (if t102 = 0 then ((bitset_Range.f k a0 0 a0).bind fun bt103 => ((bitset_fold_and.f bt103.1 bt103.2.1 l1 ()).bind fun bt109 => (some (bt109.1, bt109.2, 0)))) else (some (0, ([] : List Int), t102)))
set_option maxHeartbeats 8000000 in
set_option maxRecDepth 100000 in
theorem bitset_Inter.calls (k : Nat) (a0 : Int) (A1 : Option Addr) (c1 : Nat) (l1 : List (S26)) (r1 : Int) (r2 : List Int) (r3 : Int) (w : World) (hr1 : Kd.C k26 w A1 l1.length l1) (hc1 : l1.length ≤ c1) (h : bitset_Inter.f k a0 l1 = some (r1, r2, r3)) :
    Calls Try.prog 34 #[.int .i64 a0, .slice A1 l1.length c1] w fun e w' => ∃ v1_ : Value, e = .returned (.tuple #[.agg #[.int .i64 r1, v1_], .int .i64 r3]) ∧ Kd.R (Kd.int .u64) 82 w' w.heap.size (fun _ => True) v1_ r2 ∧ Below w.heap.size w w' := by
  have hu26 := Try.underlying26
  have HR1 := Aside0.mk hr1
  have HC1 := Aside0.mk hc1
  clear hr1 hc1
  have HB := Aside0.mk (Below.refl w.heap.size w)
  have H : ((bitset_fit.f k a0 l1).bind fun t102 => (if t102 = 0 then ((bitset_Range.f k a0 0 a0).bind fun bt103 => ((bitset_fold_and.f bt103.1 bt103.2.1 l1 ()).bind fun bt109 => (some (bt109.1, bt109.2, 0)))) else (some (0, ([] : List Int), t102)))) = some (r1, r2, r3) := h
  clear h
  replace H := Option.bind_eq_some_iff.mp H
  obtain ⟨t102, A30, H⟩ := H
  replace H : (if t102 = 0 then ((bitset_Range.f k a0 0 a0).bind fun bt103 => ((bitset_fold_and.f bt103.1 bt103.2.1 l1 ()).bind fun bt109 => (some (bt109.1, bt109.2, 0)))) else (some (0, ([] : List Int), t102))) = some (r1, r2, r3) := H
  have A3 := Aside0.mk A30
  clear A30
  by_cases c4 : t102 = 0
  · rw [if_pos c4] at H
    have c4b0 : (t102 == 0) = true := beq_iff_eq.mpr c4
    have c4b1 : (t102 != 0) = false := bne_eq_false_iff_eq.mpr c4
    clear c4
    replace H := Option.bind_eq_some_iff.mp H
    obtain ⟨⟨t103, t104, t107⟩, A50, H⟩ := H
    replace H : ((bitset_fold_and.f t103 t104 l1 ()).bind fun bt109 => (some (bt109.1, bt109.2, 0))) = some (r1, r2, r3) := H
    have A5 := Aside0.mk A50
    clear A50
    replace H := Option.bind_eq_some_iff.mp H
    obtain ⟨⟨t109, t110⟩, A60, H⟩ := H
    replace H : (some (t109, t110, 0)) = some (r1, r2, r3) := H
    have A6 := Aside0.mk A60
    clear A60
    simp only [Option.some.injEq, Prod.mk.injEq] at H
    obtain ⟨rfl, rfl, rfl⟩ := H
    go_enter Try.func34, Try.ntmps34
    go_wp2_with (first | ((with_reducible refine gate_dst (N := 4) rfl ?_); refine box_event ?hg (N := 4) ?hd (cs := #[.int .i64 0, .slice none 0 0]) (t := 26) ?hr ?_; (case hd => rfl); (case hg => rfl); (case hr => first | (go_simp; done) | (go_simp; rfl)); intro gb101 hg w7 hbox hb; have n0_ := Aside0.mk (below_step (by repeat (first | (with_reducible first | exact HB.out | apply below_alloc | apply pw_below_drewN | apply below_drew1) | exact HB.out)) hb); have n1_ := Aside0.mk (hbox); have n2_ := Aside0.mk ((by rw [hg]; exact (below_size (by repeat (first | (with_reducible first | exact HB.out | apply below_alloc | apply pw_below_drewN | apply below_drew1) | exact HB.out))) : w.heap.size ≤ gb101)); have n3_ := Aside0.mk ((by rw [hg]; exact (below_size (by repeat (first | (with_reducible first | exact HB.out | apply below_alloc | apply pw_below_drewN | apply below_drew1) | exact HB.out))) : w.heap.size ≤ gb101)); clear HB; have HB := n0_; have BK101 := n1_; have GW101 := n2_; have GE101 := n3_; clear n0_ n1_ n2_ n3_; clear hb hbox hg) | ((with_reducible refine gate_callee (f := 65) rfl ?_); refine goesL_ (some 11) rfl rfl Try.func65 (by kernel_rfl) rfl #[.int .i64 a0, .slice A1 l1.length c1] rfl (by (try simp only [List.map_toArray, List.map_cons, List.map_nil]); first | done | rfl | (simp only [List.length_drop, List.length_take]; rfl)) ?_; (with_reducible refine (bitset_fit.calls k a0 _ _ l1 t102 _ ?side1 ?side2 A3.out).mono ?_); (case side1 => repeat (first | exact (Kd.C_below HR1.out HB.out) | (with_reducible refine Kd.C_alloc ?_ _) | (with_reducible refine Kd.C_drewN ?_ _) | (with_reducible refine Kd.C_drew ?_))); (case side2 => exact HC1.out); rintro e w8 ⟨rfl, hb⟩; refine ⟨_, rfl, ?_⟩; have n0_ := Aside0.mk (blk_below (g := gb101) (o := .cells #[.int .i64 0, .slice none 0 0] 26 (0, 0)) (by (with_reducible repeat (first | refine blk_drewN ?_ _ | refine blk_drew ?_ | refine blk_alloc ?_ _)); exact BK101.out) hb); have n1_ := Aside0.mk (below_step (by repeat (first | (with_reducible first | exact HB.out | apply below_alloc | apply pw_below_drewN | apply below_drew1 | refine below_set ?_ GE101.out) | exact HB.out)) hb); clear BK101; clear HB; have BK101 := n0_; have HB := n1_; clear n0_ n1_; (try clear hb); (try clear hb2); (try clear hk); (try clear hi)) | ((with_reducible refine gate_callee (f := 16) rfl ?_); refine goesL_ (some 19) rfl rfl Try.func16 (by kernel_rfl) rfl #[.int .i64 a0, .int .i64 0, .int .i64 a0] rfl (by (try simp only [List.map_toArray, List.map_cons, List.map_nil]); first | done | rfl | (simp only [List.length_drop, List.length_take]; rfl)) ?_; (with_reducible refine (bitset_Range.calls k a0 0 a0 t103 t104 t107 _ A5.out).mono ?_); rintro e w9 ⟨v105, rfl, ho0, hb⟩; refine ⟨_, rfl, ?_⟩; have n0_ := Aside0.mk (Kd.R_lower ho0 (below_size (by repeat (first | (with_reducible first | exact HB.out | apply below_alloc | apply pw_below_drewN | apply below_drew1 | refine below_set ?_ GE101.out) | exact HB.out)))); have n1_ := Aside0.mk (blk_below (g := gb101) (o := .cells #[.int .i64 0, .slice none 0 0] 26 (0, 0)) (by (with_reducible repeat (first | refine blk_drewN ?_ _ | refine blk_drew ?_ | refine blk_alloc ?_ _)); exact BK101.out) hb); have n2_ := Aside0.mk (below_step (by repeat (first | (with_reducible first | exact HB.out | apply below_alloc | apply pw_below_drewN | apply below_drew1 | refine below_set ?_ GE101.out) | exact HB.out)) hb); clear BK101; clear HB; have HO106 := n0_; have BK101 := n1_; have HB := n2_; clear n0_ n1_ n2_; (try clear hb); (try clear hb2); (try clear hk); (try clear hi); (try clear ho0)) | ((with_reducible refine gate_dst (N := 7) rfl ?_); refine box_event ?hg (N := 7) ?hd (cs := #[.int .i64 0, .slice none 0 0]) (t := 26) ?hr ?_; (case hd => rfl); (case hg => rfl); (case hr => first | (go_simp; done) | (go_simp; rfl)); intro gb108 hg w10 hbox hb; have n0_ := Aside0.mk (Kd.R_below (by (with_reducible repeat (first | apply Kd.R_alloc | apply Kd.R_drewN | apply Kd.R_drew)); exact HO106.out) hb); have n1_ := Aside0.mk (blk_below (g := gb101) (o := .cells #[.int .i64 0, .slice none 0 0] 26 (0, 0)) (by (with_reducible repeat (first | refine blk_drewN ?_ _ | refine blk_drew ?_ | refine blk_alloc ?_ _)); exact BK101.out) hb); have n2_ := Aside0.mk (below_step (by repeat (first | (with_reducible first | exact HB.out | apply below_alloc | apply pw_below_drewN | apply below_drew1 | refine below_set ?_ GE101.out) | exact HB.out)) hb); have n3_ := Aside0.mk (hbox); have n4_ := Aside0.mk ((by rw [hg]; exact (below_size (by repeat (first | (with_reducible first | exact HB.out | apply below_alloc | apply pw_below_drewN | apply below_drew1 | refine below_set ?_ GE101.out) | exact HB.out))) : w.heap.size ≤ gb108)); have n5_ := Aside0.mk ((by rw [hg]; exact (below_size (by repeat (first | (with_reducible first | exact HB.out | apply below_alloc | apply pw_below_drewN | apply below_drew1 | refine below_set ?_ GE101.out) | exact HB.out))) : w.heap.size ≤ gb108)); have n6_ := Aside0.mk ((by rw [hg]; exact Nat.ne_of_lt (blk_lt (g := gb101) (o := .cells #[.int .i64 0, .slice none 0 0] 26 (0, 0)) (by (with_reducible repeat (first | refine blk_drewN ?_ _ | refine blk_drew ?_ | refine blk_alloc ?_ _)); exact BK101.out)) : gb101 ≠ gb108)); have n7_ := Aside0.mk ((by rw [hg]; exact Nat.ne_of_gt (blk_lt (g := gb101) (o := .cells #[.int .i64 0, .slice none 0 0] 26 (0, 0)) (by (with_reducible repeat (first | refine blk_drewN ?_ _ | refine blk_drew ?_ | refine blk_alloc ?_ _)); exact BK101.out)) : gb108 ≠ gb101)); clear HO106; clear BK101; clear HB; have HO106 := n0_; have BK101 := n1_; have HB := n2_; have BK108 := n3_; have GW108 := n4_; have GE108 := n5_; have NB101_108 := n6_; have NB108_101 := n7_; clear n0_ n1_ n2_ n3_ n4_ n5_ n6_ n7_; clear hb hbox hg; have hnb11 := NB108_101.out; have hnc11 := NB101_108.out; have hcz12_0 : w10.cell? ⟨gb108, 0, none⟩ = some (.int .i64 0) := (blk_cell BK108.out 0).trans rfl; have hcz12_1 : w10.cell? ⟨gb108, 1, none⟩ = some (.slice none 0 0) := (blk_cell BK108.out 1).trans rfl; have hfz12_0 := blk_frozen BK108.out 0; have hfz12_1 := blk_frozen BK108.out 1; obtain ⟨Ao13, co13, eo13⟩ := Kd.R_slice HO106.out; subst eo13) | ((with_reducible refine gate_store (t := 26) (p := 7) rfl ?_); refine store_event (t := 26) (p := 7) (v := ?vo_w14) (w1 := ((w10.setCell ⟨gb108, 0, none⟩ (.int .i64 t103)).setCell ⟨gb108, 1, none⟩ (.slice Ao13 t104.length co13))) ?hg ?ho ?hn ?hr ?_; (case ho => rfl); (case hg => rfl); (case hn => rfl); (case hr => first | (go_simp; done) | (go_simp; rfl)); intro w14 hw; have n0_ : Aside0 (Kd.R (Kd.int .u64) 82 w14 w.heap.size (fun _ => True) (.slice Ao13 t104.length co13) t104) := ⟨(by rw [hw]; exact (by (with_reducible repeat (first | apply Kd.R_alloc | apply Kd.R_drewN | apply Kd.R_drew)); exact Kd.R_mono (Kd.R_far (p := ⟨gb108, 1, none⟩) (Kd.R_far (p := ⟨gb108, 0, none⟩) (Kd.R_types HO106.out BK108.out (by decide)) (fun _ hk => hk.2) (.int .i64 t103)) (fun _ hk => hk.2) (.slice Ao13 t104.length co13)) (fun _ hk => trivial)))⟩; have n1_ : Aside0 (w14.heap[gb101]? = some (.cells #[.int .i64 0, .slice none 0 0] 26 (0, 0))) := ⟨(by rw [hw]; exact (by (with_reducible repeat (first | refine blk_drewN ?_ _ | refine blk_drew ?_ | refine blk_alloc ?_ _)); refine blk_far ?_ NB101_108.out _; (with_reducible repeat (first | refine blk_drewN ?_ _ | refine blk_drew ?_ | refine blk_alloc ?_ _)); refine blk_far ?_ NB101_108.out _; (with_reducible repeat (first | refine blk_drewN ?_ _ | refine blk_drew ?_ | refine blk_alloc ?_ _)); exact BK101.out))⟩; have n2_ : Aside0 (w14.heap[gb108]? = some (.cells #[.int .i64 t103, .slice Ao13 t104.length co13] 26 (0, 0))) := ⟨(by rw [hw]; exact (by (with_reducible repeat (first | refine blk_drewN ?_ _ | refine blk_drew ?_ | refine blk_alloc ?_ _)); refine blk_put (cs := #[.int .i64 t103, .slice none 0 0]) ?_ 1 _ rfl; (with_reducible repeat (first | refine blk_drewN ?_ _ | refine blk_drew ?_ | refine blk_alloc ?_ _)); refine blk_put (cs := #[.int .i64 0, .slice none 0 0]) ?_ 0 _ rfl; (with_reducible repeat (first | refine blk_drewN ?_ _ | refine blk_drew ?_ | refine blk_alloc ?_ _)); exact BK108.out))⟩; have n3_ : Aside0 (Below w.heap.size w w14) := ⟨(by rw [hw]; exact (by repeat (first | (with_reducible first | exact HB.out | apply below_alloc | apply pw_below_drewN | apply below_drew1 | refine below_set ?_ GE101.out | refine below_set ?_ GE108.out) | exact HB.out)))⟩; clear hw; clear HO106; clear BK101; clear BK108; clear HB; have HO106 := n0_; have BK101 := n1_; have BK108 := n2_; have HB := n3_; clear n0_ n1_ n2_ n3_; have hcz15_0 : w14.cell? ⟨gb108, 0, none⟩ = some (.int .i64 t103) := (blk_cell BK108.out 0).trans rfl; have hcz15_1 : w14.cell? ⟨gb108, 1, none⟩ = some (.slice Ao13 t104.length co13) := (blk_cell BK108.out 1).trans rfl; have hfz15_0 := blk_frozen BK108.out 0; have hfz15_1 := blk_frozen BK108.out 1) | ((with_reducible refine gate_callee (f := 68) rfl ?_); refine goesL_ (some 24) rfl rfl Try.func68 (by kernel_rfl) rfl #[.agg #[.int .i64 t103, .slice Ao13 t104.length co13], .slice A1 l1.length c1, .func (.func 71) #[] #[]] rfl (by (try simp only [List.map_toArray, List.map_cons, List.map_nil]); first | done | rfl | (simp only [List.length_drop, List.length_take]; rfl)) ?_; (with_reducible refine (bitset_fold_and.calls t103 (fun k_ => some k_ = (.slice Ao13 t104.length co13 : Value).ownBlock) (.slice Ao13 t104.length co13) t104 _ _ l1 () t109 t110 w _ ?side1 ?side2 ?side3 ?side4 A6.out).mono ?_); (case side1 => repeat (first | (with_reducible first | exact HB.out | apply below_alloc | apply pw_below_drewN | apply below_drew1 | refine below_set ?_ GE101.out | refine below_set ?_ GE108.out) | exact HB.out)); (case side2 => exact Kd.R_tight rfl HO106.out); (case side3 => exact Kd.C_kept_came k26_heap HR1.out (by repeat (first | (with_reducible first | exact HB.out | apply below_alloc | apply pw_below_drewN | apply below_drew1 | refine below_set ?_ GE101.out | refine below_set ?_ GE108.out) | exact HB.out)) (fun k_ hs_ => (fun e_ => Kd.R_base HO106.out k_ e_.symm) hs_)); (case side4 => exact HC1.out); rintro e w16 ⟨v111, rfl, ho0, hb, hkp⟩; refine ⟨_, rfl, ?_⟩; have n0_ := Aside0.mk (blk_kept (by (with_reducible repeat (first | refine blk_drewN ?_ _ | refine blk_drew ?_ | refine blk_alloc ?_ _)); exact BK101.out) hkp (fun hs_ => (fun e_ => (Kd.R_ne HO106.out BK101.out (by decide)) e_) hs_)); have n1_ := Aside0.mk (blk_kept (by (with_reducible repeat (first | refine blk_drewN ?_ _ | refine blk_drew ?_ | refine blk_alloc ?_ _)); exact BK108.out) hkp (fun hs_ => (fun e_ => (Kd.R_ne HO106.out BK108.out (by decide)) e_) hs_)); have n2_ := Aside0.mk (Kd.R_mono (ok' := fun k_ => True) ho0 (fun k_ hk_ => trivial)); have n3_ := Aside0.mk (hb); clear BK101; clear BK108; clear HB; clear HO106; have BK101 := n0_; have BK108 := n1_; have HO112 := n2_; have HB := n3_; clear n0_ n1_ n2_ n3_; (try clear hb); (try clear hkp); (try clear ho0); have hcz17_0 : w16.cell? ⟨gb101, 0, none⟩ = some (.int .i64 0) := (blk_cell BK101.out 0).trans rfl; have hcz17_1 : w16.cell? ⟨gb101, 1, none⟩ = some (.slice none 0 0) := (blk_cell BK101.out 1).trans rfl; have hfz17_0 := blk_frozen BK101.out 0; have hfz17_1 := blk_frozen BK101.out 1; obtain ⟨Ao18, co18, eo18⟩ := Kd.R_slice HO112.out; subst eo18))
    refine bodyPost_ret (results_ct rfl _ _ gb101 26 #[.int .i64 t109, .slice Ao18 t110.length co18] (0, 0) _ rfl (by (with_reducible repeat (first | refine blk_drewN ?_ _ | refine blk_drew ?_ | refine blk_alloc ?_ _)); refine blk_put (cs := #[.int .i64 t109, .slice none 0 0]) ?_ 1 _ rfl; (with_reducible repeat (first | refine blk_drewN ?_ _ | refine blk_drew ?_ | refine blk_alloc ?_ _)); refine blk_put (cs := #[.int .i64 0, .slice none 0 0]) ?_ 0 _ rfl; (with_reducible repeat (first | refine blk_drewN ?_ _ | refine blk_drew ?_ | refine blk_alloc ?_ _)); exact BK101.out) Try.underlying26 rfl (by kernel_rfl)) rfl ?_
    exact ⟨_, by first | rfl | (simp [errW_none, errW_some] <;> rfl) | (simp [*, errW_none, errW_some] <;> rfl), by (with_reducible repeat (first | apply Kd.R_alloc | apply Kd.R_drewN | apply Kd.R_drew)); exact Kd.R_mono (Kd.R_far (p := ⟨gb101, 1, none⟩) (Kd.R_far (p := ⟨gb101, 0, none⟩) (Kd.R_types HO112.out BK101.out (by decide)) (fun _ hk => hk.2) (.int .i64 t109)) (fun _ hk => hk.2) (.slice Ao18 t110.length co18)) (fun _ hk => trivial), by repeat (first | (with_reducible first | exact HB.out | apply below_alloc | apply pw_below_drewN | apply below_drew1 | refine below_set ?_ GE101.out | refine below_set ?_ GE108.out) | exact HB.out)⟩
  · rw [if_neg c4] at H
    have c4b0 : (t102 == 0) = false := beq_eq_false_iff_ne.mpr c4
    have c4b1 : (t102 != 0) = true := bne_iff_ne.mpr c4
    simp only [Option.some.injEq, Prod.mk.injEq] at H
    obtain ⟨rfl, rfl, rfl⟩ := H
    go_enter Try.func34, Try.ntmps34
    go_wp2_with (first | ((with_reducible refine gate_dst (N := 4) rfl ?_); refine box_event ?hg (N := 4) ?hd (cs := #[.int .i64 0, .slice none 0 0]) (t := 26) ?hr ?_; (case hd => rfl); (case hg => rfl); (case hr => first | (go_simp; done) | (go_simp; rfl)); intro gb101 hg w19 hbox hb; have n0_ := Aside0.mk (below_step (by repeat (first | (with_reducible first | exact HB.out | apply below_alloc | apply pw_below_drewN | apply below_drew1) | exact HB.out)) hb); have n1_ := Aside0.mk (hbox); have n2_ := Aside0.mk ((by rw [hg]; exact (below_size (by repeat (first | (with_reducible first | exact HB.out | apply below_alloc | apply pw_below_drewN | apply below_drew1) | exact HB.out))) : w.heap.size ≤ gb101)); have n3_ := Aside0.mk ((by rw [hg]; exact (below_size (by repeat (first | (with_reducible first | exact HB.out | apply below_alloc | apply pw_below_drewN | apply below_drew1) | exact HB.out))) : w.heap.size ≤ gb101)); clear HB; have HB := n0_; have BK101 := n1_; have GW101 := n2_; have GE101 := n3_; clear n0_ n1_ n2_ n3_; clear hb hbox hg) | ((with_reducible refine gate_callee (f := 65) rfl ?_); refine goesL_ (some 11) rfl rfl Try.func65 (by kernel_rfl) rfl #[.int .i64 a0, .slice A1 l1.length c1] rfl (by (try simp only [List.map_toArray, List.map_cons, List.map_nil]); first | done | rfl | (simp only [List.length_drop, List.length_take]; rfl)) ?_; (with_reducible refine (bitset_fit.calls k a0 _ _ l1 t102 _ ?side1 ?side2 A3.out).mono ?_); (case side1 => repeat (first | exact (Kd.C_below HR1.out HB.out) | (with_reducible refine Kd.C_alloc ?_ _) | (with_reducible refine Kd.C_drewN ?_ _) | (with_reducible refine Kd.C_drew ?_))); (case side2 => exact HC1.out); rintro e w20 ⟨rfl, hb⟩; refine ⟨_, rfl, ?_⟩; have n0_ := Aside0.mk (blk_below (g := gb101) (o := .cells #[.int .i64 0, .slice none 0 0] 26 (0, 0)) (by (with_reducible repeat (first | refine blk_drewN ?_ _ | refine blk_drew ?_ | refine blk_alloc ?_ _)); exact BK101.out) hb); have n1_ := Aside0.mk (below_step (by repeat (first | (with_reducible first | exact HB.out | apply below_alloc | apply pw_below_drewN | apply below_drew1 | refine below_set ?_ GE101.out) | exact HB.out)) hb); clear BK101; clear HB; have BK101 := n0_; have HB := n1_; clear n0_ n1_; (try clear hb); (try clear hb2); (try clear hk); (try clear hi); have hcz21_0 : w20.cell? ⟨gb101, 0, none⟩ = some (.int .i64 0) := (blk_cell BK101.out 0).trans rfl; have hcz21_1 : w20.cell? ⟨gb101, 1, none⟩ = some (.slice none 0 0) := (blk_cell BK101.out 1).trans rfl; have hfz21_0 := blk_frozen BK101.out 0; have hfz21_1 := blk_frozen BK101.out 1))
    refine bodyPost_ret (results_ct rfl _ _ gb101 26 #[.int .i64 0, .slice none 0 0] (0, 0) _ rfl (by (with_reducible repeat (first | refine blk_drewN ?_ _ | refine blk_drew ?_ | refine blk_alloc ?_ _)); refine blk_put (cs := #[.int .i64 0, .slice none 0 0]) ?_ 1 _ rfl; (with_reducible repeat (first | refine blk_drewN ?_ _ | refine blk_drew ?_ | refine blk_alloc ?_ _)); refine blk_put (cs := #[.int .i64 0, .slice none 0 0]) ?_ 0 _ rfl; (with_reducible repeat (first | refine blk_drewN ?_ _ | refine blk_drew ?_ | refine blk_alloc ?_ _)); exact BK101.out) Try.underlying26 rfl (by kernel_rfl)) rfl ?_
    exact ⟨_, by first | rfl | (simp [errW_none, errW_some] <;> rfl) | (simp [*, errW_none, errW_some] <;> rfl), by first | exact Kd.R_nil _ _ _ _ _ | exact Kd.N_nil _ _ _ _ _ | exact Kd.V_nil _ _ _ _ _ | exact Kd.Q_nil _ _ _ _ _ | exact Kd.S_nil _ _ _ _ _, by repeat (first | (with_reducible first | exact HB.out | apply below_alloc | apply pw_below_drewN | apply below_drew1 | refine below_set ?_ GE101.out) | exact HB.out)⟩
end Go.Proofs.Ytjmkhdhffmlhiaa.PAll
end
section
namespace Go.Proofs.Ytjmkhdhffmlhiaa.PAll
open Go.RowKit Go.Proofs.YtjmkhdhffmlhiaaW.PrintWords Go.Proofs.YtjmkhdhffmlhiaaW.PrintLast Go.Proofs.YtjmkhdhffmlhiaaW.PrintMore
attribute [local go_sem] max2_int min2_int max_two min_two max_three min_three max_four min_four w64_u8 w64_mod256   -- for this text's walks alone
set_option linter.unusedVariables false
set_option linter.unusedSimpArgs false
end Go.Proofs.Ytjmkhdhffmlhiaa.PAll
end
section
namespace Go.Proofs.Ytjmkhdhffmlhiaa.PAll
open Go.RowKit Go.Proofs.YtjmkhdhffmlhiaaW.PrintWords Go.Proofs.YtjmkhdhffmlhiaaW.PrintMore
def manyb (all : Bool) (l : List S26) (d : Nat) : Bool := if all then l.all (fun x => hb x.f1 d) else l.any (fun x => hb x.f1 d)
def ManySays (n : Int) (l : List S26) (all : Bool) (r : Int × List Int × Int) : Prop :=
  (∃ e, e ≠ 0 ∧ FitSays n l e ∧ r = (0, [], e)) ∨ (FitSays n l 0 ∧ ∃ ws, Is n.toNat (manyb all l) ws ∧ r = (n, ws, 0))
theorem ManySays.eq {n : Int} {l : List S26} {all : Bool} {r q : Int × List Int × Int} (h : ManySays n l all r) (k : ManySays n l all q) : r = q := by
  rcases h with ⟨e, h1, h2, rfl⟩ | ⟨h1, ws, h2, rfl⟩ <;> rcases k with ⟨e2, k1, k2, rfl⟩ | ⟨k1, vs, k2, rfl⟩
  · rw [h2.eq k2]
  · exact absurd (h2.eq k1) h1
  · exact absurd (k2.eq h1) k1
  · rw [h2.eq k2 (fun _ _ => rfl)]
theorem ManySays.bound {n : Int} {l : List S26} {all : Bool} {s : Int} {vs : List Int} {c : Int} (h : ManySays n l all (s, vs, c)) : vs.length ≤ 9223372036854775807 := by
  rcases h with ⟨e, h1, h2, h3⟩ | ⟨h1, ws, h2, h3⟩
  · cases h3; simp
  · cases h3
    rcases h1 with ⟨h1, _⟩ | ⟨h1, _⟩ | ⟨_, _, _, h3, h4⟩
    · omega
    · omega
    · rw [h2.len]; omega
theorem FitSays.zero {n : Int} {l : List S26} (h : FitSays n l 0) : (∀ x ∈ l, MayS x ∧ x.f0 = n) ∧ 0 ≤ n ∧ n ≤ 4096 := by
  rcases h with ⟨h1, _⟩ | ⟨h1, _⟩ | ⟨_, h1, h2, h3⟩
  · omega
  · omega
  · exact ⟨fun x hx => ⟨h1 x hx, h2 x hx⟩, h3⟩
theorem Union_eq (n : Int) (l : List S26) (hl : l.length ≤ 9223372036854775807) (hg : Goods l) : ∃ r, ManySays n l false r ∧ Ev (fun k => bitset_Union.f k n l) r := by
  obtain ⟨e, h1, h2⟩ := fit_eq n l hl hg
  by_cases he : e = 0
  · subst he
    obtain ⟨h3, h4, h5⟩ := h1.zero
    obtain ⟨m, rfl⟩ := Int.eq_ofNat_of_zero_le h4
    obtain ⟨c, h6, h7⟩ := folds_is bitly_or l (fun x hx => ⟨(h3 x hx).1, (h3 x hx).2, (hg x hx).1⟩) (Is.none m)
    refine ⟨((m : Int), c, 0), .inr ⟨h1, c, ?_, rfl⟩, ?_⟩
    · rw [Int.toNat_natCast]
      refine h7.congr fun d _ => ?_
      rw [foldl_any]; simp [manyb]
    · unfold bitset_Union.f
      refine Ev.bind (f := fun _ t102 => (if t102 = 0 then ((bitset_blank.f (m : Int)).bind fun bt103 => ((bitset_fold_or.f bt103.1 bt103.2 l ()).bind fun bt107 => (some (bt107.1, bt107.2, 0)))) else (some (0, ([] : List Int), t102)))) h2 (Ev.const fun k => ?_)
      rw [if_pos rfl, blank_eq (by omega), Option.bind_some]
      unfold bitset_fold_or.f
      rw [h6]; rfl
  · refine ⟨(0, [], e), .inl ⟨e, he, h1, rfl⟩, ?_⟩
    unfold bitset_Union.f
    refine Ev.bind (f := fun _ t102 => (if t102 = 0 then ((bitset_blank.f n).bind fun bt103 => ((bitset_fold_or.f bt103.1 bt103.2 l ()).bind fun bt107 => (some (bt107.1, bt107.2, 0)))) else (some (0, ([] : List Int), t102)))) h2 (Ev.const fun k => ?_)
    rw [if_neg he]
theorem Inter_eq (n : Int) (l : List S26) (hl : l.length ≤ 9223372036854775807) (hg : Goods l) : ∃ r, ManySays n l true r ∧ Ev (fun k => bitset_Inter.f k n l) r := by
  obtain ⟨e, h1, h2⟩ := fit_eq n l hl hg
  by_cases he : e = 0
  · subst he
    obtain ⟨h3, h4, h5⟩ := h1.zero
    obtain ⟨m, rfl⟩ := Int.eq_ofNat_of_zero_le h4
    obtain ⟨r, k1, k2⟩ := Range_eq (m : Int) 0 (m : Int) (by omega)
    obtain ⟨vs, k3, rfl⟩ : ∃ vs, Is m (fun _ => true) vs ∧ r = ((m : Int), vs, 0) := by
      rcases k1 with ⟨k1, _⟩ | ⟨_, _, vs, k3, rfl⟩
      · omega
      · refine ⟨vs, ?_, rfl⟩
        rw [Int.toNat_natCast] at k3
        refine k3.congr fun d hd => ?_
        simp; omega
    obtain ⟨c, h6, h7⟩ := folds_is bitly_and l (fun x hx => ⟨(h3 x hx).1, (h3 x hx).2, (hg x hx).1⟩) k3
    refine ⟨((m : Int), c, 0), .inr ⟨h1, c, ?_, rfl⟩, ?_⟩
    · rw [Int.toNat_natCast]
      refine h7.congr fun d _ => ?_
      rw [foldl_all]; simp [manyb]
    · unfold bitset_Inter.f
      refine Ev.bind (f := fun k t102 => (if t102 = 0 then ((bitset_Range.f k (m : Int) 0 (m : Int)).bind fun bt103 => ((bitset_fold_and.f bt103.1 bt103.2.1 l ()).bind fun bt109 => (some (bt109.1, bt109.2, 0)))) else (some (0, ([] : List Int), t102)))) h2 (Ev.congr (f := fun k => (bitset_Range.f k (m : Int) 0 (m : Int)).bind fun bt103 => ((bitset_fold_and.f bt103.1 bt103.2.1 l ()).bind fun bt109 => (some (bt109.1, bt109.2, 0)))) (fun k => ?_) (Ev.bind (f := fun _ bt103 => ((bitset_fold_and.f bt103.1 bt103.2.1 l ()).bind fun bt109 => (some (bt109.1, bt109.2, 0)))) k2 (Ev.const fun k => ?_)))
      · rw [if_pos rfl]
      · unfold bitset_fold_and.f
        dsimp only
        rw [h6]; rfl
  · refine ⟨(0, [], e), .inl ⟨e, he, h1, rfl⟩, ?_⟩
    unfold bitset_Inter.f
    refine Ev.bind (f := fun k t102 => (if t102 = 0 then ((bitset_Range.f k n 0 n).bind fun bt103 => ((bitset_fold_and.f bt103.1 bt103.2.1 l ()).bind fun bt109 => (some (bt109.1, bt109.2, 0)))) else (some (0, ([] : List Int), t102)))) h2 (Ev.const fun k => ?_)
    rw [if_neg he]
end Go.Proofs.Ytjmkhdhffmlhiaa.PAll
end
section
namespace Go.Proofs.Ytjmkhdhffmlhiaa.PAll
open Go.RowKit Go.Proofs.YtjmkhdhffmlhiaaW.PrintWords Go.Proofs.YtjmkhdhffmlhiaaW.PrintLast Go.Proofs.YtjmkhdhffmlhiaaW.PrintMore
attribute [local go_sem] max2_int min2_int max_two min_two max_three min_three max_four min_four w64_u8 w64_mod256   -- for this text's walks alone
set_option linter.unusedVariables false
set_option linter.unusedSimpArgs false
end Go.Proofs.Ytjmkhdhffmlhiaa.PAll
end
section
namespace Go.Proofs.Ytjmkhdhffmlhiaa.PAll
open Go.RowKit Go.Proofs.YtjmkhdhffmlhiaaW.PrintWords Go.Proofs.YtjmkhdhffmlhiaaW.PrintLast Go.Proofs.YtjmkhdhffmlhiaaW.PrintMore
end Go.Proofs.Ytjmkhdhffmlhiaa.PAll
end
section
namespace Go.Proofs.Ytjmkhdhffmlhiaa.PAll
open Go.RowKit Go.Proofs.YtjmkhdhffmlhiaaW.PrintWords Go.Proofs.YtjmkhdhffmlhiaaW.PrintLast Go.Proofs.YtjmkhdhffmlhiaaW.PrintMore
end Go.Proofs.Ytjmkhdhffmlhiaa.PAll
end
section
namespace Go.Proofs.Ytjmkhdhffmlhiaa.PAll
open Go.RowKit Go.Proofs.YtjmkhdhffmlhiaaW.PrintWords Go.Proofs.YtjmkhdhffmlhiaaW.PrintLast Go.Proofs.YtjmkhdhffmlhiaaW.PrintMore
theorem same_sets (n : Int) (l : List Int) (hb : l.length ≤ 9223372036854775807) : ∃ k, slopelaw3_same.f k n l n l = some true := by
  have key : ∀ d i : Nat, i + d = l.length → ∃ k, slopelaw3_same.l0 k (i : Int) n l n l = some true := by
    intro d
    induction d with
    | zero => intro i h; exact ⟨1, by simp only [slopelaw3_same.l0]; rw [if_neg (by omega)]⟩
    | succ d ih =>
      intro i h
      obtain ⟨k, hk⟩ := ih (i + 1) (by omega)
      refine ⟨k + 1, ?_⟩
      simp only [slopelaw3_same.l0]
      rw [if_pos (by omega), if_pos (by omega), if_pos (by omega)]
      rw [show wrap64 ((i : Int) + 1) = ((i + 1 : Nat) : Int) by unfold wrap64; omega]
      simpa using hk
  obtain ⟨k, hk⟩ := key l.length 0 (by omega)
  refine ⟨k + 1, ?_⟩
  unfold slopelaw3_same.f
  rw [if_pos rfl]
  simp only [slopelaw3_same.j0]
  rw [if_neg (by simp)]
  exact hk
theorem same_ev (n : Int) (l : List Int) (hb : l.length ≤ 9223372036854775807) : Ev (fun k => slopelaw3_same.f k n l n l) true := by
  obtain ⟨k, hk⟩ := same_sets n l hb
  exact Ev.of (fun k => slopelaw3_same.mono _ _ _ _ k) hk
end Go.Proofs.Ytjmkhdhffmlhiaa.PAll
end
section
namespace Go.Proofs.Ytjmkhdhffmlhiaa.PAll
set_option linter.unusedVariables false
open Go.RowKit Go.Proofs.YtjmkhdhffmlhiaaW.PrintWords Go.Proofs.YtjmkhdhffmlhiaaW.PrintMore
theorem sum_countP (p : Nat → Bool) : ∀ l : List Nat, (l.map (fun j => (p j).toNat)).sum = l.countP p
  | [] => rfl
  | a :: l => by
    rw [List.map_cons, List.sum_cons, List.countP_cons, sum_countP p l]
    cases p a <;> simp
    omega
theorem pc_countP (x : Int) : pc x.toNat = (List.range 64).countP (tb x) := by
  rw [pc_bits, ← sum_countP]
  rfl
theorem hb_cons (x : Int) (l : List Int) (e : Nat) : hb (x :: l) (64 + e) = hb l e := by
  unfold hb
  rw [show (64 + e) / 64 = e / 64 + 1 by omega, show (64 + e) % 64 = e % 64 by omega]
  rfl
theorem hb_head (x : Int) (l : List Int) {e : Nat} (h : e < 64) : hb (x :: l) e = tb x e := by
  unfold hb
  rw [show e / 64 = 0 by omega, show e % 64 = e by omega]
  rfl
theorem cnt_countP : ∀ ws : List Int, cnt ws = (List.range (64 * ws.length)).countP (hb ws)
  | [] => rfl
  | x :: l => by
    have h1 : (List.range 64).countP (tb x) = (List.range 64).countP (hb (x :: l)) := by
      apply List.countP_congr
      intro e he
      rw [hb_head x l (List.mem_range.1 he)]
    have h2 : (List.range (64 * l.length)).countP (hb l) = (List.range (64 * l.length)).countP (hb (x :: l) ∘ fun e => 64 + e) := by
      apply List.countP_congr
      intro e _
      simp only [Function.comp]
      rw [hb_cons]
    rw [cnt_cons, pc_countP, cnt_countP l, List.length_cons, show 64 * (l.length + 1) = 64 + 64 * l.length by omega, List.range_add, List.countP_append, List.countP_map, h1, h2]
theorem Is.cnt {n : Nat} {p : Nat → Bool} {ws : List Int} (h : Is n p ws) : cnt ws = (List.range n).countP p := by
  have hl := h.len
  rw [cnt_countP, show 64 * ws.length = n + (64 * ws.length - n) by omega, List.range_add, List.countP_append]
  have h1 : ((List.range (64 * ws.length - n)).map (n + ·)).countP (hb ws) = 0 := by
    rw [List.countP_eq_zero]
    intro e he
    obtain ⟨d, _, rfl⟩ := List.mem_map.1 he
    have h2 : ¬ n + d < n := by omega
    rw [h.has]; simp [h2]
  rw [h1, Nat.add_zero]
  apply List.countP_congr
  intro e he
  rw [h.has]
  simp [List.mem_range.1 he]
end Go.Proofs.Ytjmkhdhffmlhiaa.PAll
end
section
namespace Go.Proofs.Ytjmkhdhffmlhiaa.PAll
open Go.RowKit Go.Proofs.YtjmkhdhffmlhiaaW.PrintWords Go.Proofs.YtjmkhdhffmlhiaaW.PrintLast Go.Proofs.YtjmkhdhffmlhiaaW.PrintMore
attribute [local go_sem] max2_int min2_int max_two min_two max_three min_three max_four min_four w64_u8 w64_mod256   -- for this text's walks alone
set_option linter.unusedVariables false
set_option linter.unusedSimpArgs false
def slopelaw3_union.f (k : Nat) (a0 : Int) (a1_0 : Int) (l1_1 : List Int) (a2_0 : Int) (l2_1 : List Int) : Option (Int × List Int × Bool) := (bitset_Union.f k a0 (([(⟨a1_0, l1_1⟩ : S26), (⟨a2_0, l2_1⟩ : S26)] : List (S26)))).bind fun bt107 => ((slopelaw3_num.f bt107.2.2).bind fun t113 => (some (bt107.1, bt107.2.1, (t113 == 0))))
set_option maxHeartbeats 8000000 in
set_option maxRecDepth 100000 in
theorem slopelaw3_union.calls (k : Nat) (a0 : Int) (a1_0 : Int) (P1_1_ : Nat → Prop) (A1_1 : Option Addr) (c1_1 : Nat) (l1_1 : List Int) (a2_0 : Int) (P2_1_ : Nat → Prop) (A2_1 : Option Addr) (c2_1 : Nat) (l2_1 : List Int) (r1 : Int) (r2 : List Int) (r3 : Bool) (w : World) (hs1_1 : Kd.V (Kd.int .u64) 82 w w.heap.size (fun k_ => P1_1_ k_) (.slice A1_1 l1_1.length c1_1) l1_1) (hs2_1 : Kd.V (Kd.int .u64) 82 w w.heap.size (fun k_ => P2_1_ k_) (.slice A2_1 l2_1.length c2_1) l2_1) (h : slopelaw3_union.f k a0 a1_0 l1_1 a2_0 l2_1 = some (r1, r2, r3)) :
    Calls Try.prog 53 #[.int .i64 a0, .agg #[.int .i64 a1_0, .slice A1_1 l1_1.length c1_1], .agg #[.int .i64 a2_0, .slice A2_1 l2_1.length c2_1]] w fun e w' => ∃ v1_ : Value, e = .returned (.tuple #[.agg #[.int .i64 r1, v1_], .bool r3]) ∧ Kd.R (Kd.int .u64) 82 w' w.heap.size (fun k_ => (w.heap.size ≤ k_)) v1_ r2 ∧ Below w.heap.size w w' := by
  have hu26 := Try.underlying26
  have HO1_1 := Aside0.mk (show Kd.V (Kd.int .u64) 82 w w.heap.size (fun k_ => ((P1_1_ k_ ∨ P2_1_ k_) ∨ w.heap.size ≤ k_)) (.slice A1_1 l1_1.length c1_1) l1_1 from Kd.V_mono hs1_1 (fun k_ hk => .inl (.inl hk)))
  have HO2_1 := Aside0.mk (show Kd.V (Kd.int .u64) 82 w w.heap.size (fun k_ => ((P1_1_ k_ ∨ P2_1_ k_) ∨ w.heap.size ≤ k_)) (.slice A2_1 l2_1.length c2_1) l2_1 from Kd.V_mono hs2_1 (fun k_ hk => .inl (.inr hk)))
  have HB := Aside0.mk (Below.refl w.heap.size w)
  have H : ((bitset_Union.f k a0 (([(⟨a1_0, l1_1⟩ : S26), (⟨a2_0, l2_1⟩ : S26)] : List (S26)))).bind fun bt107 => ((slopelaw3_num.f bt107.2.2).bind fun t113 => (some (bt107.1, bt107.2.1, (t113 == 0))))) = some (r1, r2, r3) := h
  clear h
  obtain ⟨y104, hy104⟩ : ∃ y_ : List (S26), y_ = (([(⟨a1_0, l1_1⟩ : S26), (⟨a2_0, l2_1⟩ : S26)] : List (S26))) := ⟨_, rfl⟩
  replace H : ((bitset_Union.f k a0 y104).bind fun bt107 => ((slopelaw3_num.f bt107.2.2).bind fun t113 => (some (bt107.1, bt107.2.1, (t113 == 0))))) = some (r1, r2, r3) := by first | (rw [hy104]; with_reducible exact H) | (have H2_ := (Option.bind_some _ _).symm.trans H; rw [hy104]; with_reducible exact H2_) | (have H2_ := (Option.bind_some _ _).symm.trans H; with_reducible exact H2_) | with_reducible exact H | (rw [hy104]; exact H) | exact H
  have Ny104 := Aside0.mk hy104
  clear hy104
  replace H := Option.bind_eq_some_iff.mp H
  obtain ⟨⟨t107, t108, t111⟩, A40, H⟩ := H
  replace H : ((slopelaw3_num.f t111).bind fun t113 => (some (t107, t108, (t113 == 0)))) = some (r1, r2, r3) := H
  have A4 := Aside0.mk A40
  clear A40
  replace H := Option.bind_eq_some_iff.mp H
  obtain ⟨t113, A50, H⟩ := H
  replace H : (some (t107, t108, (t113 == 0))) = some (r1, r2, r3) := H
  have A5 := Aside0.mk A50
  clear A50
  simp only [Option.some.injEq, Prod.mk.injEq] at H
  obtain ⟨rfl, rfl, rfl⟩ := H
  go_enter Try.func53, Try.ntmps53
  try go_wp2_with (first | ((with_reducible refine gate_dst (N := 4) rfl ?_); refine box_event ?hg (N := 4) ?hd (cs := #[.int .i64 a1_0, .slice A1_1 l1_1.length c1_1]) (t := 26) ?hr ?_; (case hd => rfl); (case hg => rfl); (case hr => first | (go_simp; done) | (go_simp; rfl)); intro gb101 hg w6 hbox hb; have n0_ := Aside0.mk (Kd.V_below (Kd.V_elderB (by (with_reducible repeat (first | apply Kd.V_alloc | apply Kd.V_drewN | apply Kd.V_drew)); exact HO1_1.out) gb101 (Nat.le_of_eq hg.symm)) hb); have n1_ := Aside0.mk (Kd.V_below (Kd.V_elderB (by (with_reducible repeat (first | apply Kd.V_alloc | apply Kd.V_drewN | apply Kd.V_drew)); exact HO2_1.out) gb101 (Nat.le_of_eq hg.symm)) hb); have n2_ := Aside0.mk (below_step (by repeat (first | (with_reducible first | exact HB.out | apply below_alloc | apply pw_below_drewN | apply below_drew1) | exact HB.out)) hb); have n3_ := Aside0.mk (hbox); have n4_ := Aside0.mk ((by rw [hg]; exact (below_size (by repeat (first | (with_reducible first | exact HB.out | apply below_alloc | apply pw_below_drewN | apply below_drew1) | exact HB.out))) : w.heap.size ≤ gb101)); have n5_ := Aside0.mk ((by rw [hg]; exact (below_size (by repeat (first | (with_reducible first | exact HB.out | apply below_alloc | apply pw_below_drewN | apply below_drew1) | exact HB.out))) : w.heap.size ≤ gb101)); clear HO1_1; clear HO2_1; clear HB; have HO1_1 := n0_; have HO2_1 := n1_; have HB := n2_; have BK101 := n3_; have GW101 := n4_; have GE101 := n5_; clear n0_ n1_ n2_ n3_ n4_ n5_; clear hb hbox hg) | ((with_reducible refine gate_dst (N := 5) rfl ?_); refine box_event ?hg (N := 5) ?hd (cs := #[.int .i64 a2_0, .slice A2_1 l2_1.length c2_1]) (t := 26) ?hr ?_; (case hd => rfl); (case hg => rfl); (case hr => first | (go_simp; done) | (go_simp; rfl)); intro gb102 hg w7 hbox hb; have n0_ := Aside0.mk (Kd.V_below (Kd.V_elderB (by (with_reducible repeat (first | apply Kd.V_alloc | apply Kd.V_drewN | apply Kd.V_drew)); exact HO1_1.out) gb102 (Nat.le_of_eq hg.symm)) hb); have n1_ := Aside0.mk (Kd.V_below (Kd.V_elderB (by (with_reducible repeat (first | apply Kd.V_alloc | apply Kd.V_drewN | apply Kd.V_drew)); exact HO2_1.out) gb102 (Nat.le_of_eq hg.symm)) hb); have n2_ := Aside0.mk (blk_below (g := gb101) (o := .cells #[.int .i64 a1_0, .slice A1_1 l1_1.length c1_1] 26 (0, 0)) (by (with_reducible repeat (first | refine blk_drewN ?_ _ | refine blk_drew ?_ | refine blk_alloc ?_ _)); exact BK101.out) hb); have n3_ := Aside0.mk (below_step (by repeat (first | (with_reducible first | exact HB.out | apply below_alloc | apply pw_below_drewN | apply below_drew1 | refine below_set ?_ GE101.out) | exact HB.out)) hb); have n4_ := Aside0.mk (hbox); have n5_ := Aside0.mk ((by rw [hg]; exact (below_size (by repeat (first | (with_reducible first | exact HB.out | apply below_alloc | apply pw_below_drewN | apply below_drew1 | refine below_set ?_ GE101.out) | exact HB.out))) : w.heap.size ≤ gb102)); have n6_ := Aside0.mk ((by rw [hg]; exact (below_size (by repeat (first | (with_reducible first | exact HB.out | apply below_alloc | apply pw_below_drewN | apply below_drew1 | refine below_set ?_ GE101.out) | exact HB.out))) : w.heap.size ≤ gb102)); have n7_ := Aside0.mk ((by rw [hg]; exact Nat.ne_of_lt (blk_lt (g := gb101) (o := .cells #[.int .i64 a1_0, .slice A1_1 l1_1.length c1_1] 26 (0, 0)) (by (with_reducible repeat (first | refine blk_drewN ?_ _ | refine blk_drew ?_ | refine blk_alloc ?_ _)); exact BK101.out)) : gb101 ≠ gb102)); have n8_ := Aside0.mk ((by rw [hg]; exact Nat.ne_of_gt (blk_lt (g := gb101) (o := .cells #[.int .i64 a1_0, .slice A1_1 l1_1.length c1_1] 26 (0, 0)) (by (with_reducible repeat (first | refine blk_drewN ?_ _ | refine blk_drew ?_ | refine blk_alloc ?_ _)); exact BK101.out)) : gb102 ≠ gb101)); clear HO1_1; clear HO2_1; clear BK101; clear HB; have HO1_1 := n0_; have HO2_1 := n1_; have BK101 := n2_; have HB := n3_; have BK102 := n4_; have GW102 := n5_; have GE102 := n6_; have NB101_102 := n7_; have NB102_101 := n8_; clear n0_ n1_ n2_ n3_ n4_ n5_ n6_ n7_ n8_; clear hb hbox hg) | ((with_reducible refine gate_dst (N := 6) rfl ?_); refine box_event ?hg (N := 6) ?hd (cs := #[.int .i64 0, .slice none 0 0]) (t := 26) ?hr ?_; (case hd => rfl); (case hg => rfl); (case hr => first | (go_simp; done) | (go_simp; rfl)); intro gb103 hg w8 hbox hb; have n0_ := Aside0.mk (Kd.V_below (Kd.V_elderB (by (with_reducible repeat (first | apply Kd.V_alloc | apply Kd.V_drewN | apply Kd.V_drew)); exact HO1_1.out) gb103 (Nat.le_of_eq hg.symm)) hb); have n1_ := Aside0.mk (Kd.V_below (Kd.V_elderB (by (with_reducible repeat (first | apply Kd.V_alloc | apply Kd.V_drewN | apply Kd.V_drew)); exact HO2_1.out) gb103 (Nat.le_of_eq hg.symm)) hb); have n2_ := Aside0.mk (blk_below (g := gb101) (o := .cells #[.int .i64 a1_0, .slice A1_1 l1_1.length c1_1] 26 (0, 0)) (by (with_reducible repeat (first | refine blk_drewN ?_ _ | refine blk_drew ?_ | refine blk_alloc ?_ _)); exact BK101.out) hb); have n3_ := Aside0.mk (blk_below (g := gb102) (o := .cells #[.int .i64 a2_0, .slice A2_1 l2_1.length c2_1] 26 (0, 0)) (by (with_reducible repeat (first | refine blk_drewN ?_ _ | refine blk_drew ?_ | refine blk_alloc ?_ _)); exact BK102.out) hb); have n4_ := Aside0.mk (below_step (by repeat (first | (with_reducible first | exact HB.out | apply below_alloc | apply pw_below_drewN | apply below_drew1 | refine below_set ?_ GE101.out | refine below_set ?_ GE102.out) | exact HB.out)) hb); have n5_ := Aside0.mk (hbox); have n6_ := Aside0.mk ((by rw [hg]; exact (below_size (by repeat (first | (with_reducible first | exact HB.out | apply below_alloc | apply pw_below_drewN | apply below_drew1 | refine below_set ?_ GE101.out | refine below_set ?_ GE102.out) | exact HB.out))) : w.heap.size ≤ gb103)); have n7_ := Aside0.mk ((by rw [hg]; exact (below_size (by repeat (first | (with_reducible first | exact HB.out | apply below_alloc | apply pw_below_drewN | apply below_drew1 | refine below_set ?_ GE101.out | refine below_set ?_ GE102.out) | exact HB.out))) : w.heap.size ≤ gb103)); have n8_ := Aside0.mk ((by rw [hg]; exact Nat.ne_of_lt (blk_lt (g := gb101) (o := .cells #[.int .i64 a1_0, .slice A1_1 l1_1.length c1_1] 26 (0, 0)) (by (with_reducible repeat (first | refine blk_drewN ?_ _ | refine blk_drew ?_ | refine blk_alloc ?_ _)); exact BK101.out)) : gb101 ≠ gb103)); have n9_ := Aside0.mk ((by rw [hg]; exact Nat.ne_of_gt (blk_lt (g := gb101) (o := .cells #[.int .i64 a1_0, .slice A1_1 l1_1.length c1_1] 26 (0, 0)) (by (with_reducible repeat (first | refine blk_drewN ?_ _ | refine blk_drew ?_ | refine blk_alloc ?_ _)); exact BK101.out)) : gb103 ≠ gb101)); have n10_ := Aside0.mk ((by rw [hg]; exact Nat.ne_of_lt (blk_lt (g := gb102) (o := .cells #[.int .i64 a2_0, .slice A2_1 l2_1.length c2_1] 26 (0, 0)) (by (with_reducible repeat (first | refine blk_drewN ?_ _ | refine blk_drew ?_ | refine blk_alloc ?_ _)); exact BK102.out)) : gb102 ≠ gb103)); have n11_ := Aside0.mk ((by rw [hg]; exact Nat.ne_of_gt (blk_lt (g := gb102) (o := .cells #[.int .i64 a2_0, .slice A2_1 l2_1.length c2_1] 26 (0, 0)) (by (with_reducible repeat (first | refine blk_drewN ?_ _ | refine blk_drew ?_ | refine blk_alloc ?_ _)); exact BK102.out)) : gb103 ≠ gb102)); clear HO1_1; clear HO2_1; clear BK101; clear BK102; clear HB; have HO1_1 := n0_; have HO2_1 := n1_; have BK101 := n2_; have BK102 := n3_; have HB := n4_; have BK103 := n5_; have GW103 := n6_; have GE103 := n7_; have NB101_103 := n8_; have NB103_101 := n9_; have NB102_103 := n10_; have NB103_102 := n11_; clear n0_ n1_ n2_ n3_ n4_ n5_ n6_ n7_ n8_ n9_ n10_ n11_; clear hb hbox hg; have hnb9 := NB101_102.out; have hnc9 := NB102_101.out; have hnb10 := NB101_103.out; have hnc10 := NB103_101.out; have hcz11_0 : w8.cell? ⟨gb101, 0, none⟩ = some (.int .i64 a1_0) := (blk_cell BK101.out 0).trans rfl; have hcz11_1 : w8.cell? ⟨gb101, 1, none⟩ = some (.slice A1_1 l1_1.length c1_1) := (blk_cell BK101.out 1).trans rfl; have hfz11_0 := blk_frozen BK101.out 0; have hfz11_1 := blk_frozen BK101.out 1; have hnb12 := NB102_103.out; have hnc12 := NB103_102.out; have hcz13_0 : w8.cell? ⟨gb102, 0, none⟩ = some (.int .i64 a2_0) := (blk_cell BK102.out 0).trans rfl; have hcz13_1 : w8.cell? ⟨gb102, 1, none⟩ = some (.slice A2_1 l2_1.length c2_1) := (blk_cell BK102.out 1).trans rfl; have hfz13_0 := blk_frozen BK102.out 0; have hfz13_1 := blk_frozen BK102.out 1) | ((with_reducible refine gate_dst (N := 14) rfl ?_); refine Kd.N_lit k26 _ 26 ?hg (N' := 14) ?hd (xs := ([(⟨a1_0, l1_1⟩ : S26), (⟨a2_0, l2_1⟩ : S26)] : List (S26))) (inner := [.int .i64 a1_0, .slice A1_1 l1_1.length c1_1, .int .i64 a2_0, .slice A2_1 l2_1.length c2_1]) (ok := (fun k_ => ((P1_1_ k_ ∨ P2_1_ k_) ∨ w.heap.size ≤ k_) ∧ k_ ≠ gb101 ∧ k_ ≠ gb102 ∧ k_ ≠ gb103)) (okp := (fun k_ => ((P1_1_ k_ ∨ P2_1_ k_) ∨ w.heap.size ≤ k_) ∧ k_ ≠ gb101 ∧ k_ ≠ gb102 ∧ k_ ≠ gb103)) ?hr ?hp (fun _ hk => hk) ((show ∀ k_, w8.heap.size ≤ k_ → (fun k_ => ((P1_1_ k_ ∨ P2_1_ k_) ∨ w.heap.size ≤ k_) ∧ k_ ≠ gb101 ∧ k_ ≠ gb102 ∧ k_ ≠ gb103) k_ from fun k_ hk => ⟨(.inr (Nat.le_trans (below_size (by repeat (first | (with_reducible first | exact HB.out | apply below_alloc | apply pw_below_drewN | apply below_drew1 | refine below_set ?_ GE101.out | refine below_set ?_ GE102.out | refine below_set ?_ GE103.out) | exact HB.out))) hk)), Kd.freshB (g := gb101) (o := .cells #[.int .i64 a1_0, .slice A1_1 l1_1.length c1_1] 26 (0, 0)) (by (with_reducible repeat (first | refine blk_drewN ?_ _ | refine blk_drew ?_ | refine blk_alloc ?_ _)); exact BK101.out) k_ hk, Kd.freshB (g := gb102) (o := .cells #[.int .i64 a2_0, .slice A2_1 l2_1.length c2_1] 26 (0, 0)) (by (with_reducible repeat (first | refine blk_drewN ?_ _ | refine blk_drew ?_ | refine blk_alloc ?_ _)); exact BK102.out) k_ hk, Kd.freshB (g := gb103) (o := .cells #[.int .i64 0, .slice none 0 0] 26 (0, 0)) (by (with_reducible repeat (first | refine blk_drewN ?_ _ | refine blk_drew ?_ | refine blk_alloc ?_ _)); exact BK103.out) k_ hk⟩) _ (Nat.le_refl _)) (Below.refl _ _) (Nat.le_refl _) (by simp) ?_; (case hd => rfl); (case hg => rfl); (case hr => first | (go_simp; done) | (go_simp; rfl)); (case hp => exact (Reps.c2 (show Kd.FK k26 _ _ (⟨a1_0, l1_1⟩ : S26) [.int .i64 a1_0, .slice A1_1 l1_1.length c1_1] from (k26_mkF _ _ (⟨a1_0, l1_1⟩ : S26) (Kd.V_reads' (Kd.V_mono (ok' := (fun k_ => ((P1_1_ k_ ∨ P2_1_ k_) ∨ w.heap.size ≤ k_) ∧ k_ ≠ gb101 ∧ k_ ≠ gb102 ∧ k_ ≠ gb103)) (HO1_1.out) (fun k_ hk => ⟨hk.1.1.1, ⟨hk.1.1.2, ⟨hk.1.2, hk.2⟩⟩⟩))).2.1 (Kd.V_F (Kd.V_mono (ok' := (fun k_ => ((P1_1_ k_ ∨ P2_1_ k_) ∨ w.heap.size ≤ k_) ∧ k_ ≠ gb101 ∧ k_ ≠ gb102 ∧ k_ ≠ gb103)) (HO1_1.out) (fun k_ hk => ⟨hk.1.1.1, ⟨hk.1.1.2, ⟨hk.1.2, hk.2⟩⟩⟩))))) (Reps.c2 (show Kd.FK k26 _ _ (⟨a2_0, l2_1⟩ : S26) [.int .i64 a2_0, .slice A2_1 l2_1.length c2_1] from (k26_mkF _ _ (⟨a2_0, l2_1⟩ : S26) (Kd.V_reads' (Kd.V_mono (ok' := (fun k_ => ((P1_1_ k_ ∨ P2_1_ k_) ∨ w.heap.size ≤ k_) ∧ k_ ≠ gb101 ∧ k_ ≠ gb102 ∧ k_ ≠ gb103)) (HO2_1.out) (fun k_ hk => ⟨hk.1.1.1, ⟨hk.1.1.2, ⟨hk.1.2, hk.2⟩⟩⟩))).2.1 (Kd.V_F (Kd.V_mono (ok' := (fun k_ => ((P1_1_ k_ ∨ P2_1_ k_) ∨ w.heap.size ≤ k_) ∧ k_ ≠ gb101 ∧ k_ ≠ gb102 ∧ k_ ≠ gb103)) (HO2_1.out) (fun k_ hk => ⟨hk.1.1.1, ⟨hk.1.1.2, ⟨hk.1.2, hk.2⟩⟩⟩))))) (Reps.none _ _)))); intro v105 w14 ho15 hb hg_ hnew_; clear hg_ hnew_; (first | rw [← Ny104.out] at ho15 | (simp only [Int.reduceToNat] at ho15; rw [← Ny104.out] at ho15)); have n0_ := Aside0.mk (Kd.V_elder' (by (with_reducible repeat (first | apply Kd.V_alloc | apply Kd.V_drewN | apply Kd.V_drew)); exact HO1_1.out) (Kd.N_base ho15) hb); have n1_ := Aside0.mk (Kd.V_elder' (by (with_reducible repeat (first | apply Kd.V_alloc | apply Kd.V_drewN | apply Kd.V_drew)); exact HO2_1.out) (Kd.N_base ho15) hb); have n2_ := Aside0.mk (Kd.N_lower ho15 (below_size (by repeat (first | (with_reducible first | exact HB.out | apply below_alloc | apply pw_below_drewN | apply below_drew1 | refine below_set ?_ GE101.out | refine below_set ?_ GE102.out | refine below_set ?_ GE103.out) | exact HB.out)))); have n3_ := Aside0.mk (blk_below (g := gb101) (o := .cells #[.int .i64 a1_0, .slice A1_1 l1_1.length c1_1] 26 (0, 0)) (by (with_reducible repeat (first | refine blk_drewN ?_ _ | refine blk_drew ?_ | refine blk_alloc ?_ _)); exact BK101.out) hb); have n4_ := Aside0.mk (blk_below (g := gb102) (o := .cells #[.int .i64 a2_0, .slice A2_1 l2_1.length c2_1] 26 (0, 0)) (by (with_reducible repeat (first | refine blk_drewN ?_ _ | refine blk_drew ?_ | refine blk_alloc ?_ _)); exact BK102.out) hb); have n5_ := Aside0.mk (blk_below (g := gb103) (o := .cells #[.int .i64 0, .slice none 0 0] 26 (0, 0)) (by (with_reducible repeat (first | refine blk_drewN ?_ _ | refine blk_drew ?_ | refine blk_alloc ?_ _)); exact BK103.out) hb); have n6_ := Aside0.mk (below_step (by repeat (first | (with_reducible first | exact HB.out | apply below_alloc | apply pw_below_drewN | apply below_drew1 | refine below_set ?_ GE101.out | refine below_set ?_ GE102.out | refine below_set ?_ GE103.out) | exact HB.out)) hb); clear HO1_1; clear HO2_1; clear BK101; clear BK102; clear BK103; clear HB; have HO1_1 := n0_; have HO2_1 := n1_; have HO106 := n2_; have BK101 := n3_; have BK102 := n4_; have BK103 := n5_; have HB := n6_; clear n0_ n1_ n2_ n3_ n4_ n5_ n6_; clear hb ho15; obtain ⟨Ao16, co16, eo16⟩ := Kd.N_slice HO106.out; subst eo16) | ((with_reducible refine gate_callee (f := 32) rfl ?_); refine goesL_ (some 15) rfl rfl Try.func32 (by kernel_rfl) rfl #[.int .i64 a0, .slice Ao16 y104.length co16] rfl (by (try simp only [List.map_toArray, List.map_cons, List.map_nil]); first | done | rfl | (simp only [List.length_drop, List.length_take]; rfl)) ?_; (with_reducible refine (bitset_Union.calls k a0 _ _ y104 t107 t108 t111 _ ?side1 ?side2 A4.out).mono ?_); (case side1 => repeat (first | exact (Kd.N_reads' HO106.out).2.2 | (with_reducible refine Kd.C_alloc ?_ _) | (with_reducible refine Kd.C_drewN ?_ _) | (with_reducible refine Kd.C_drew ?_))); (case side2 => exact (Kd.N_reads' HO106.out).2.1); rintro e w17 ⟨v109, rfl, ho0, hb⟩; refine ⟨_, rfl, ?_⟩; have n0_ := Aside0.mk (Kd.V_elder' (by (with_reducible repeat (first | apply Kd.V_alloc | apply Kd.V_drewN | apply Kd.V_drew)); exact HO1_1.out) (Kd.R_base ho0) hb); have n1_ := Aside0.mk (Kd.V_elder' (by (with_reducible repeat (first | apply Kd.V_alloc | apply Kd.V_drewN | apply Kd.V_drew)); exact HO2_1.out) (Kd.R_base ho0) hb); have n2_ := Aside0.mk (Kd.N_elder' (by (with_reducible repeat (first | apply Kd.N_alloc | apply Kd.N_drewN | apply Kd.N_drew)); exact HO106.out) (Kd.R_base ho0) hb); have n3_ := Aside0.mk (Kd.R_lower (Kd.R_newM (M := fun k_ => (w.heap.size ≤ k_)) ho0 (below_size (by repeat (first | (with_reducible first | exact HB.out | apply below_alloc | apply pw_below_drewN | apply below_drew1 | refine below_set ?_ GE101.out | refine below_set ?_ GE102.out | refine below_set ?_ GE103.out) | exact HB.out))) (fun k_ h_ => h_)) (below_size (by repeat (first | (with_reducible first | exact HB.out | apply below_alloc | apply pw_below_drewN | apply below_drew1 | refine below_set ?_ GE101.out | refine below_set ?_ GE102.out | refine below_set ?_ GE103.out) | exact HB.out)))); have n4_ := Aside0.mk (blk_below (g := gb101) (o := .cells #[.int .i64 a1_0, .slice A1_1 l1_1.length c1_1] 26 (0, 0)) (by (with_reducible repeat (first | refine blk_drewN ?_ _ | refine blk_drew ?_ | refine blk_alloc ?_ _)); exact BK101.out) hb); have n5_ := Aside0.mk (blk_below (g := gb102) (o := .cells #[.int .i64 a2_0, .slice A2_1 l2_1.length c2_1] 26 (0, 0)) (by (with_reducible repeat (first | refine blk_drewN ?_ _ | refine blk_drew ?_ | refine blk_alloc ?_ _)); exact BK102.out) hb); have n6_ := Aside0.mk (blk_below (g := gb103) (o := .cells #[.int .i64 0, .slice none 0 0] 26 (0, 0)) (by (with_reducible repeat (first | refine blk_drewN ?_ _ | refine blk_drew ?_ | refine blk_alloc ?_ _)); exact BK103.out) hb); have n7_ := Aside0.mk (below_step (by repeat (first | (with_reducible first | exact HB.out | apply below_alloc | apply pw_below_drewN | apply below_drew1 | refine below_set ?_ GE101.out | refine below_set ?_ GE102.out | refine below_set ?_ GE103.out) | exact HB.out)) hb); clear HO1_1; clear HO2_1; clear HO106; clear BK101; clear BK102; clear BK103; clear HB; have HO1_1 := n0_; have HO2_1 := n1_; have HO106 := n2_; have HO110 := n3_; have BK101 := n4_; have BK102 := n5_; have BK103 := n6_; have HB := n7_; clear n0_ n1_ n2_ n3_ n4_ n5_ n6_ n7_; (try clear hb); (try clear hb2); (try clear hk); (try clear hi); (try clear ho0)) | ((with_reducible refine gate_dst (N := 8) rfl ?_); refine box_event ?hg (N := 8) ?hd (cs := #[.int .i64 0, .slice none 0 0]) (t := 26) ?hr ?_; (case hd => rfl); (case hg => rfl); (case hr => first | (go_simp; done) | (go_simp; rfl)); intro gb112 hg w18 hbox hb; have n0_ := Aside0.mk (Kd.V_below (Kd.V_elderB (by (with_reducible repeat (first | apply Kd.V_alloc | apply Kd.V_drewN | apply Kd.V_drew)); exact HO1_1.out) gb112 (Nat.le_of_eq hg.symm)) hb); have n1_ := Aside0.mk (Kd.V_below (Kd.V_elderB (by (with_reducible repeat (first | apply Kd.V_alloc | apply Kd.V_drewN | apply Kd.V_drew)); exact HO2_1.out) gb112 (Nat.le_of_eq hg.symm)) hb); have n2_ := Aside0.mk (Kd.N_below (Kd.N_elderB (by (with_reducible repeat (first | apply Kd.N_alloc | apply Kd.N_drewN | apply Kd.N_drew)); exact HO106.out) gb112 (Nat.le_of_eq hg.symm)) hb); have n3_ := Aside0.mk (Kd.R_below (by (with_reducible repeat (first | apply Kd.R_alloc | apply Kd.R_drewN | apply Kd.R_drew)); exact HO110.out) hb); have n4_ := Aside0.mk (blk_below (g := gb101) (o := .cells #[.int .i64 a1_0, .slice A1_1 l1_1.length c1_1] 26 (0, 0)) (by (with_reducible repeat (first | refine blk_drewN ?_ _ | refine blk_drew ?_ | refine blk_alloc ?_ _)); exact BK101.out) hb); have n5_ := Aside0.mk (blk_below (g := gb102) (o := .cells #[.int .i64 a2_0, .slice A2_1 l2_1.length c2_1] 26 (0, 0)) (by (with_reducible repeat (first | refine blk_drewN ?_ _ | refine blk_drew ?_ | refine blk_alloc ?_ _)); exact BK102.out) hb); have n6_ := Aside0.mk (blk_below (g := gb103) (o := .cells #[.int .i64 0, .slice none 0 0] 26 (0, 0)) (by (with_reducible repeat (first | refine blk_drewN ?_ _ | refine blk_drew ?_ | refine blk_alloc ?_ _)); exact BK103.out) hb); have n7_ := Aside0.mk (below_step (by repeat (first | (with_reducible first | exact HB.out | apply below_alloc | apply pw_below_drewN | apply below_drew1 | refine below_set ?_ GE101.out | refine below_set ?_ GE102.out | refine below_set ?_ GE103.out) | exact HB.out)) hb); have n8_ := Aside0.mk (hbox); have n9_ := Aside0.mk ((by rw [hg]; exact (below_size (by repeat (first | (with_reducible first | exact HB.out | apply below_alloc | apply pw_below_drewN | apply below_drew1 | refine below_set ?_ GE101.out | refine below_set ?_ GE102.out | refine below_set ?_ GE103.out) | exact HB.out))) : w.heap.size ≤ gb112)); have n10_ := Aside0.mk ((by rw [hg]; exact (below_size (by repeat (first | (with_reducible first | exact HB.out | apply below_alloc | apply pw_below_drewN | apply below_drew1 | refine below_set ?_ GE101.out | refine below_set ?_ GE102.out | refine below_set ?_ GE103.out) | exact HB.out))) : w.heap.size ≤ gb112)); have n11_ := Aside0.mk ((by rw [hg]; exact Nat.ne_of_lt (blk_lt (g := gb101) (o := .cells #[.int .i64 a1_0, .slice A1_1 l1_1.length c1_1] 26 (0, 0)) (by (with_reducible repeat (first | refine blk_drewN ?_ _ | refine blk_drew ?_ | refine blk_alloc ?_ _)); exact BK101.out)) : gb101 ≠ gb112)); have n12_ := Aside0.mk ((by rw [hg]; exact Nat.ne_of_gt (blk_lt (g := gb101) (o := .cells #[.int .i64 a1_0, .slice A1_1 l1_1.length c1_1] 26 (0, 0)) (by (with_reducible repeat (first | refine blk_drewN ?_ _ | refine blk_drew ?_ | refine blk_alloc ?_ _)); exact BK101.out)) : gb112 ≠ gb101)); have n13_ := Aside0.mk ((by rw [hg]; exact Nat.ne_of_lt (blk_lt (g := gb102) (o := .cells #[.int .i64 a2_0, .slice A2_1 l2_1.length c2_1] 26 (0, 0)) (by (with_reducible repeat (first | refine blk_drewN ?_ _ | refine blk_drew ?_ | refine blk_alloc ?_ _)); exact BK102.out)) : gb102 ≠ gb112)); have n14_ := Aside0.mk ((by rw [hg]; exact Nat.ne_of_gt (blk_lt (g := gb102) (o := .cells #[.int .i64 a2_0, .slice A2_1 l2_1.length c2_1] 26 (0, 0)) (by (with_reducible repeat (first | refine blk_drewN ?_ _ | refine blk_drew ?_ | refine blk_alloc ?_ _)); exact BK102.out)) : gb112 ≠ gb102)); have n15_ := Aside0.mk ((by rw [hg]; exact Nat.ne_of_lt (blk_lt (g := gb103) (o := .cells #[.int .i64 0, .slice none 0 0] 26 (0, 0)) (by (with_reducible repeat (first | refine blk_drewN ?_ _ | refine blk_drew ?_ | refine blk_alloc ?_ _)); exact BK103.out)) : gb103 ≠ gb112)); have n16_ := Aside0.mk ((by rw [hg]; exact Nat.ne_of_gt (blk_lt (g := gb103) (o := .cells #[.int .i64 0, .slice none 0 0] 26 (0, 0)) (by (with_reducible repeat (first | refine blk_drewN ?_ _ | refine blk_drew ?_ | refine blk_alloc ?_ _)); exact BK103.out)) : gb112 ≠ gb103)); clear HO1_1; clear HO2_1; clear HO106; clear HO110; clear BK101; clear BK102; clear BK103; clear HB; have HO1_1 := n0_; have HO2_1 := n1_; have HO106 := n2_; have HO110 := n3_; have BK101 := n4_; have BK102 := n5_; have BK103 := n6_; have HB := n7_; have BK112 := n8_; have GW112 := n9_; have GE112 := n10_; have NB101_112 := n11_; have NB112_101 := n12_; have NB102_112 := n13_; have NB112_102 := n14_; have NB103_112 := n15_; have NB112_103 := n16_; clear n0_ n1_ n2_ n3_ n4_ n5_ n6_ n7_ n8_ n9_ n10_ n11_ n12_ n13_ n14_ n15_ n16_; clear hb hbox hg; have hnb19 := NB112_101.out; have hnc19 := NB101_112.out; have hnb20 := NB112_102.out; have hnc20 := NB102_112.out; have hnb21 := NB112_103.out; have hnc21 := NB103_112.out; have hcz22_0 : w18.cell? ⟨gb112, 0, none⟩ = some (.int .i64 0) := (blk_cell BK112.out 0).trans rfl; have hcz22_1 : w18.cell? ⟨gb112, 1, none⟩ = some (.slice none 0 0) := (blk_cell BK112.out 1).trans rfl; have hfz22_0 := blk_frozen BK112.out 0; have hfz22_1 := blk_frozen BK112.out 1; obtain ⟨Ao23, co23, eo23⟩ := Kd.R_slice HO110.out; subst eo23))
  have n0_ : Aside0 (Kd.V (Kd.int .u64) 82 ((w18.setCell ⟨gb112, 0, none⟩ (.int .i64 t107)).setCell ⟨gb112, 1, none⟩ (.slice Ao23 t108.length co23)) w.heap.size (fun k_ => ((P1_1_ k_ ∨ P2_1_ k_) ∨ w.heap.size ≤ k_) ∧ some k_ ≠ (.slice Ao16 y104.length co16 : Value).ownBlock ∧ some k_ ≠ (.slice Ao23 t108.length co23 : Value).ownBlock ∧ k_ ≠ gb101 ∧ k_ ≠ gb102 ∧ k_ ≠ gb103 ∧ k_ ≠ gb112) (.slice A1_1 l1_1.length c1_1) l1_1) := ⟨by (with_reducible repeat (first | apply Kd.V_alloc | apply Kd.V_drewN | apply Kd.V_drew)); exact Kd.V_mono (Kd.V_far (p := ⟨gb112, 1, none⟩) (Kd.V_far (p := ⟨gb112, 0, none⟩) (Kd.V_mono HO1_1.out (fun k_ hk => (⟨hk, hk.2⟩ : _ ∧ k_ ≠ gb112))) (fun _ hk => hk.2) (.int .i64 t107)) (fun _ hk => hk.2) (.slice Ao23 t108.length co23)) (fun _ hk => ⟨hk.1.1.1.1.1.1.1, ⟨hk.1.1.1.2, ⟨hk.1.1.2, ⟨hk.1.1.1.1.1.1.2, ⟨hk.1.1.1.1.1.2, ⟨hk.1.1.1.1.2, hk.1.2⟩⟩⟩⟩⟩⟩)⟩
  have n1_ : Aside0 (Kd.V (Kd.int .u64) 82 ((w18.setCell ⟨gb112, 0, none⟩ (.int .i64 t107)).setCell ⟨gb112, 1, none⟩ (.slice Ao23 t108.length co23)) w.heap.size (fun k_ => ((P1_1_ k_ ∨ P2_1_ k_) ∨ w.heap.size ≤ k_) ∧ some k_ ≠ (.slice Ao16 y104.length co16 : Value).ownBlock ∧ some k_ ≠ (.slice Ao23 t108.length co23 : Value).ownBlock ∧ k_ ≠ gb101 ∧ k_ ≠ gb102 ∧ k_ ≠ gb103 ∧ k_ ≠ gb112) (.slice A2_1 l2_1.length c2_1) l2_1) := ⟨by (with_reducible repeat (first | apply Kd.V_alloc | apply Kd.V_drewN | apply Kd.V_drew)); exact Kd.V_mono (Kd.V_far (p := ⟨gb112, 1, none⟩) (Kd.V_far (p := ⟨gb112, 0, none⟩) (Kd.V_mono HO2_1.out (fun k_ hk => (⟨hk, hk.2⟩ : _ ∧ k_ ≠ gb112))) (fun _ hk => hk.2) (.int .i64 t107)) (fun _ hk => hk.2) (.slice Ao23 t108.length co23)) (fun _ hk => ⟨hk.1.1.1.1.1.1.1, ⟨hk.1.1.1.2, ⟨hk.1.1.2, ⟨hk.1.1.1.1.1.1.2, ⟨hk.1.1.1.1.1.2, ⟨hk.1.1.1.1.2, hk.1.2⟩⟩⟩⟩⟩⟩)⟩
  have n2_ : Aside0 (Kd.N k26 26 ((w18.setCell ⟨gb112, 0, none⟩ (.int .i64 t107)).setCell ⟨gb112, 1, none⟩ (.slice Ao23 t108.length co23)) w.heap.size (fun k_ => ((P1_1_ k_ ∨ P2_1_ k_) ∨ w.heap.size ≤ k_) ∧ some k_ ≠ (.slice Ao23 t108.length co23 : Value).ownBlock ∧ k_ ≠ gb101 ∧ k_ ≠ gb102 ∧ k_ ≠ gb103 ∧ k_ ≠ gb112) (.slice Ao16 y104.length co16) y104) := ⟨by (with_reducible repeat (first | apply Kd.N_alloc | apply Kd.N_drewN | apply Kd.N_drew)); exact Kd.N_mono (Kd.N_far (p := ⟨gb112, 1, none⟩) (Kd.N_far (p := ⟨gb112, 0, none⟩) (Kd.N_mono HO106.out (fun k_ hk => (⟨hk, hk.2⟩ : _ ∧ k_ ≠ gb112))) (fun _ hk => hk.2) (.int .i64 t107)) (fun _ hk => hk.2) (.slice Ao23 t108.length co23)) (fun _ hk => ⟨hk.1.1.1.1, ⟨hk.1.1.2, ⟨hk.1.1.1.2.1, ⟨hk.1.1.1.2.2.1, ⟨hk.1.1.1.2.2.2, hk.1.2⟩⟩⟩⟩⟩)⟩
  have n3_ : Aside0 (Kd.R (Kd.int .u64) 82 ((w18.setCell ⟨gb112, 0, none⟩ (.int .i64 t107)).setCell ⟨gb112, 1, none⟩ (.slice Ao23 t108.length co23)) w.heap.size (fun k_ => (w.heap.size ≤ k_)) (.slice Ao23 t108.length co23) t108) := ⟨by (with_reducible repeat (first | apply Kd.R_alloc | apply Kd.R_drewN | apply Kd.R_drew)); exact Kd.R_mono (Kd.R_far (p := ⟨gb112, 1, none⟩) (Kd.R_far (p := ⟨gb112, 0, none⟩) (Kd.R_types HO110.out BK112.out (by decide)) (fun _ hk => hk.2) (.int .i64 t107)) (fun _ hk => hk.2) (.slice Ao23 t108.length co23)) (fun _ hk => hk.1.1)⟩
  have n4_ : Aside0 (((w18.setCell ⟨gb112, 0, none⟩ (.int .i64 t107)).setCell ⟨gb112, 1, none⟩ (.slice Ao23 t108.length co23)).heap[gb101]? = some (.cells #[.int .i64 a1_0, .slice A1_1 l1_1.length c1_1] 26 (0, 0))) := ⟨by (with_reducible repeat (first | refine blk_drewN ?_ _ | refine blk_drew ?_ | refine blk_alloc ?_ _)); refine blk_far ?_ NB101_112.out _; (with_reducible repeat (first | refine blk_drewN ?_ _ | refine blk_drew ?_ | refine blk_alloc ?_ _)); refine blk_far ?_ NB101_112.out _; (with_reducible repeat (first | refine blk_drewN ?_ _ | refine blk_drew ?_ | refine blk_alloc ?_ _)); exact BK101.out⟩
  have n5_ : Aside0 (((w18.setCell ⟨gb112, 0, none⟩ (.int .i64 t107)).setCell ⟨gb112, 1, none⟩ (.slice Ao23 t108.length co23)).heap[gb102]? = some (.cells #[.int .i64 a2_0, .slice A2_1 l2_1.length c2_1] 26 (0, 0))) := ⟨by (with_reducible repeat (first | refine blk_drewN ?_ _ | refine blk_drew ?_ | refine blk_alloc ?_ _)); refine blk_far ?_ NB102_112.out _; (with_reducible repeat (first | refine blk_drewN ?_ _ | refine blk_drew ?_ | refine blk_alloc ?_ _)); refine blk_far ?_ NB102_112.out _; (with_reducible repeat (first | refine blk_drewN ?_ _ | refine blk_drew ?_ | refine blk_alloc ?_ _)); exact BK102.out⟩
  have n6_ : Aside0 (((w18.setCell ⟨gb112, 0, none⟩ (.int .i64 t107)).setCell ⟨gb112, 1, none⟩ (.slice Ao23 t108.length co23)).heap[gb103]? = some (.cells #[.int .i64 0, .slice none 0 0] 26 (0, 0))) := ⟨by (with_reducible repeat (first | refine blk_drewN ?_ _ | refine blk_drew ?_ | refine blk_alloc ?_ _)); refine blk_far ?_ NB103_112.out _; (with_reducible repeat (first | refine blk_drewN ?_ _ | refine blk_drew ?_ | refine blk_alloc ?_ _)); refine blk_far ?_ NB103_112.out _; (with_reducible repeat (first | refine blk_drewN ?_ _ | refine blk_drew ?_ | refine blk_alloc ?_ _)); exact BK103.out⟩
  have n7_ : Aside0 (((w18.setCell ⟨gb112, 0, none⟩ (.int .i64 t107)).setCell ⟨gb112, 1, none⟩ (.slice Ao23 t108.length co23)).heap[gb112]? = some (.cells #[.int .i64 t107, .slice Ao23 t108.length co23] 26 (0, 0))) := ⟨by (with_reducible repeat (first | refine blk_drewN ?_ _ | refine blk_drew ?_ | refine blk_alloc ?_ _)); refine blk_put (cs := #[.int .i64 t107, .slice none 0 0]) ?_ 1 _ rfl; (with_reducible repeat (first | refine blk_drewN ?_ _ | refine blk_drew ?_ | refine blk_alloc ?_ _)); refine blk_put (cs := #[.int .i64 0, .slice none 0 0]) ?_ 0 _ rfl; (with_reducible repeat (first | refine blk_drewN ?_ _ | refine blk_drew ?_ | refine blk_alloc ?_ _)); exact BK112.out⟩
  have n8_ : Aside0 (Below w.heap.size w ((w18.setCell ⟨gb112, 0, none⟩ (.int .i64 t107)).setCell ⟨gb112, 1, none⟩ (.slice Ao23 t108.length co23))) := ⟨by repeat (first | (with_reducible first | exact HB.out | apply below_alloc | apply pw_below_drewN | apply below_drew1 | refine below_set ?_ GE101.out | refine below_set ?_ GE102.out | refine below_set ?_ GE103.out | refine below_set ?_ GE112.out) | exact HB.out)⟩
  (try clear HO1_1)
  (try clear HO2_1)
  (try clear HO106)
  (try clear HO110)
  (try clear BK101)
  (try clear BK102)
  (try clear BK103)
  (try clear BK112)
  (try clear HB)
  generalize ((w18.setCell ⟨gb112, 0, none⟩ (.int .i64 t107)).setCell ⟨gb112, 1, none⟩ (.slice Ao23 t108.length co23)) = w24 at n0_ n1_ n2_ n3_ n4_ n5_ n6_ n7_ n8_ ⊢
  have HO1_1 := n0_
  have HO2_1 := n1_
  have HO106 := n2_
  have HO110 := n3_
  have BK101 := n4_
  have BK102 := n5_
  have BK103 := n6_
  have BK112 := n7_
  have HB := n8_
  clear n0_ n1_ n2_ n3_ n4_ n5_ n6_ n7_ n8_
  have n0_ := Aside0.mk (Kd.V_drew HO1_1.out)
  have n1_ := Aside0.mk (Kd.V_drew HO2_1.out)
  have n2_ := Aside0.mk (Kd.N_drew HO106.out)
  have n3_ := Aside0.mk (Kd.R_drew HO110.out)
  have n4_ := Aside0.mk (blk_drew BK101.out)
  have n5_ := Aside0.mk (blk_drew BK102.out)
  have n6_ := Aside0.mk (blk_drew BK103.out)
  have n7_ := Aside0.mk (blk_drew BK112.out)
  have n8_ := Aside0.mk (below_drew1 HB.out)
  clear HO1_1
  clear HO2_1
  clear HO106
  clear HO110
  clear BK101
  clear BK102
  clear BK103
  clear BK112
  clear HB
  have HO1_1 := n0_
  have HO2_1 := n1_
  have HO106 := n2_
  have HO110 := n3_
  have BK101 := n4_
  have BK102 := n5_
  have BK103 := n6_
  have BK112 := n7_
  have HB := n8_
  clear n0_ n1_ n2_ n3_ n4_ n5_ n6_ n7_ n8_
  refine start_ (n := 6) (S := fun w' => w'.cell? ⟨gb112, 0, none⟩ = some (.int .i64 t107) ∧ w'.cell? ⟨gb112, 1, none⟩ = some (.slice Ao23 t108.length co23)) (ds := []) #[false, false, false, false, false, false] (by kernel_rfl) rfl rfl ⟨(blk_cell BK112.out 0).trans rfl, (blk_cell BK112.out 1).trans rfl⟩ (fun hHeld => ?_)
  generalize w24.drew = w25 at HO1_1 HO2_1 HO106 HO110 BK101 BK102 BK103 BK112 HB hHeld ⊢
  refine pure_ (i := 1) (N := some 19) (v := ?_) (a' := ?_) #[false, true, false, false, false, false] rfl rfl (by kernel_rfl) (fun _ _ _ h => h) (Or.inl ⟨by rfl, ?_⟩) ?_ ?_
  rotate_left
  · intro w'
    go_simp
    with_reducible rfl
  rotate_left
  · simp only [Act.put, List.setIfInBounds_toArray, List.set_cons_zero, List.set_cons_succ, i64_w, i32_w]
    rfl
  refine take_ (i := 0) (N := some 18) (v := ?_) (a' := ?_) #[true, true, false, false, false, false] rfl rfl (by kernel_rfl) (fun _ _ _ h => h) (Or.inl ⟨by rfl, ?_⟩) hHeld ?_ ?_
  rotate_left
  · rintro w' ⟨s0, s1⟩
    go_simp
    with_reducible rfl
  rotate_left
  · simp only [Act.put, List.setIfInBounds_toArray, List.set_cons_zero, List.set_cons_succ, i64_w, i32_w]
    rfl
  refine one_ (i := 2) (N := some 20) #[true, true, true, false, false, false] rfl rfl (by kernel_rfl) (by decide) (fun K hK => ?_)
  refine goes_ Try.func19 (by kernel_rfl) rfl #[.int .i64 t111] (by rfl) rfl rfl (by (try simp only [List.map_toArray, List.map_cons, List.map_nil]); first | done | rfl | (simp only [List.length_drop, List.length_take]; rfl)) ?_
  with_reducible refine (slopelaw3_num.calls t111 t113 _ A5.out).mono ?_
  rintro e w' ⟨rfl, ⟨nd, rfl⟩⟩
  refine ⟨_, rfl, ?_⟩
  refine hK.out _ _ ⟨(blk_cell BK112.out 0).trans rfl, (blk_cell BK112.out 1).trans rfl⟩ (fun hHeld => ?_)
  clear hK K
  refine norm_ (a' := ?_) ?_ ?_
  rotate_left
  · show Act.put _ (some 20) _ = _
    simp only [Act.put, List.setIfInBounds_toArray, List.set_cons_zero, List.set_cons_succ, i64_w, i32_w]
    rfl
  refine pure_ (i := 3) (N := some 21) (v := ?_) (a' := ?_) #[true, true, true, true, false, false] rfl rfl (by kernel_rfl) (fun _ _ _ h => h) (Or.inl ⟨by rfl, ?_⟩) ?_ ?_
  rotate_left
  · intro w'
    go_simp
    with_reducible rfl
  rotate_left
  · simp only [Act.put, List.setIfInBounds_toArray, List.set_cons_zero, List.set_cons_succ, i64_w, i32_w]
    rfl
  refine one_ (i := 4) (N := none) #[true, true, true, true, true, false] rfl rfl (by kernel_rfl) (by decide) (fun K hK => ?_)
  have hs26 : w25.cell? ⟨gb103, 0, none⟩ = some (.int .i64 0) := (blk_cell BK103.out 0).trans rfl
  have hfs26 := blk_frozen BK103.out 0
  have hns26_0 := NB101_103.out
  have hns26_1 := NB102_103.out
  have hns26_3 := NB112_103.out
  have hms26_0 := NB103_101.out
  have hms26_1 := NB103_102.out
  have hms26_3 := NB103_112.out
  have hs27 : w25.cell? ⟨gb103, 1, none⟩ = some (.slice none 0 0) := (blk_cell BK103.out 1).trans rfl
  have hfs27 := blk_frozen BK103.out 1
  have hns27_0 := NB101_103.out
  have hns27_1 := NB102_103.out
  have hns27_3 := NB112_103.out
  have hms27_0 := NB103_101.out
  have hms27_1 := NB103_102.out
  have hms27_3 := NB103_112.out
  refine skip_ (w1 := ?_) (by rfl) rfl ?_ ?_
  rotate_left
  · go_simp
    rfl
  refine hK.out _ _ ⟨((cell_far (p := ⟨gb103, _, none⟩) NB112_103.out _).trans (((cell_far (p := ⟨gb103, _, none⟩) NB112_103.out _).trans (hHeld.1)))), ((cell_far (p := ⟨gb103, _, none⟩) NB112_103.out _).trans (((cell_far (p := ⟨gb103, _, none⟩) NB112_103.out _).trans (hHeld.2))))⟩ (fun hHeld => ?_)
  clear hK K
  refine pure_ (i := 5) (N := some 7) (v := ?_) (a' := ?_) #[true, true, true, true, true, true] rfl rfl (by kernel_rfl) (fun _ _ _ h => h) (Or.inl ⟨by rfl, ?_⟩) ?_ ?_
  rotate_left
  · intro w'
    go_simp
    with_reducible rfl
  rotate_left
  · simp only [Act.put, List.setIfInBounds_toArray, List.set_cons_zero, List.set_cons_succ, i64_w, i32_w]
    rfl
  refine done_ (by kernel_rfl) ?_
  try go_wp2
  refine bodyPost_ret (results_ct rfl _ _ gb103 26 #[.int .i64 t107, .slice Ao23 t108.length co23] (0, 0) _ rfl (by (with_reducible repeat (first | refine blk_drewN ?_ _ | refine blk_drew ?_ | refine blk_alloc ?_ _)); refine blk_put (cs := #[.int .i64 t107, .slice none 0 0]) ?_ 1 _ rfl; (with_reducible repeat (first | refine blk_drewN ?_ _ | refine blk_drew ?_ | refine blk_alloc ?_ _)); refine blk_put (cs := #[.int .i64 0, .slice none 0 0]) ?_ 0 _ rfl; (with_reducible repeat (first | refine blk_drewN ?_ _ | refine blk_drew ?_ | refine blk_alloc ?_ _)); exact BK103.out) Try.underlying26 rfl (by kernel_rfl)) rfl ?_
  exact ⟨_, by first | rfl | (simp [errW_none, errW_some] <;> rfl) | (simp [*, errW_none, errW_some] <;> rfl), by (with_reducible repeat (first | apply Kd.R_alloc | apply Kd.R_drewN | apply Kd.R_drew)); exact Kd.R_mono (Kd.R_far (p := ⟨gb103, 1, none⟩) (Kd.R_far (p := ⟨gb103, 0, none⟩) (Kd.R_types HO110.out BK103.out (by decide)) (fun _ hk => hk.2) (.int .i64 t107)) (fun _ hk => hk.2) (.slice Ao23 t108.length co23)) (fun _ hk => hk.1), by repeat (first | (with_reducible first | exact HB.out | apply below_alloc | apply pw_below_drewN | apply below_drew1 | refine below_set ?_ GE101.out | refine below_set ?_ GE102.out | refine below_set ?_ GE103.out | refine below_set ?_ GE112.out) | exact HB.out)⟩
end Go.Proofs.Ytjmkhdhffmlhiaa.PAll
end
section
namespace Go.Proofs.Ytjmkhdhffmlhiaa.PAll
open Go.RowKit Go.Proofs.YtjmkhdhffmlhiaaW.PrintWords Go.Proofs.YtjmkhdhffmlhiaaW.PrintLast Go.Proofs.YtjmkhdhffmlhiaaW.PrintMore
attribute [local go_sem] max2_int min2_int max_two min_two max_three min_three max_four min_four w64_u8 w64_mod256   -- for this text's walks alone
set_option linter.unusedVariables false
set_option linter.unusedSimpArgs false
def slopelaw3_inter.f (k : Nat) (a0 : Int) (a1_0 : Int) (l1_1 : List Int) (a2_0 : Int) (l2_1 : List Int) : Option (Int × List Int × Bool) := (bitset_Inter.f k a0 (([(⟨a1_0, l1_1⟩ : S26), (⟨a2_0, l2_1⟩ : S26)] : List (S26)))).bind fun bt107 => ((slopelaw3_num.f bt107.2.2).bind fun t113 => (some (bt107.1, bt107.2.1, (t113 == 0))))
set_option maxHeartbeats 8000000 in
set_option maxRecDepth 100000 in
theorem slopelaw3_inter.calls (k : Nat) (a0 : Int) (a1_0 : Int) (P1_1_ : Nat → Prop) (A1_1 : Option Addr) (c1_1 : Nat) (l1_1 : List Int) (a2_0 : Int) (P2_1_ : Nat → Prop) (A2_1 : Option Addr) (c2_1 : Nat) (l2_1 : List Int) (r1 : Int) (r2 : List Int) (r3 : Bool) (w : World) (hs1_1 : Kd.V (Kd.int .u64) 82 w w.heap.size (fun k_ => P1_1_ k_) (.slice A1_1 l1_1.length c1_1) l1_1) (hs2_1 : Kd.V (Kd.int .u64) 82 w w.heap.size (fun k_ => P2_1_ k_) (.slice A2_1 l2_1.length c2_1) l2_1) (h : slopelaw3_inter.f k a0 a1_0 l1_1 a2_0 l2_1 = some (r1, r2, r3)) :
    Calls Try.prog 54 #[.int .i64 a0, .agg #[.int .i64 a1_0, .slice A1_1 l1_1.length c1_1], .agg #[.int .i64 a2_0, .slice A2_1 l2_1.length c2_1]] w fun e w' => ∃ v1_ : Value, e = .returned (.tuple #[.agg #[.int .i64 r1, v1_], .bool r3]) ∧ Kd.R (Kd.int .u64) 82 w' w.heap.size (fun k_ => (w.heap.size ≤ k_)) v1_ r2 ∧ Below w.heap.size w w' := by
  have hu26 := Try.underlying26
  have HO1_1 := Aside0.mk (show Kd.V (Kd.int .u64) 82 w w.heap.size (fun k_ => ((P1_1_ k_ ∨ P2_1_ k_) ∨ w.heap.size ≤ k_)) (.slice A1_1 l1_1.length c1_1) l1_1 from Kd.V_mono hs1_1 (fun k_ hk => .inl (.inl hk)))
  have HO2_1 := Aside0.mk (show Kd.V (Kd.int .u64) 82 w w.heap.size (fun k_ => ((P1_1_ k_ ∨ P2_1_ k_) ∨ w.heap.size ≤ k_)) (.slice A2_1 l2_1.length c2_1) l2_1 from Kd.V_mono hs2_1 (fun k_ hk => .inl (.inr hk)))
  have HB := Aside0.mk (Below.refl w.heap.size w)
  have H : ((bitset_Inter.f k a0 (([(⟨a1_0, l1_1⟩ : S26), (⟨a2_0, l2_1⟩ : S26)] : List (S26)))).bind fun bt107 => ((slopelaw3_num.f bt107.2.2).bind fun t113 => (some (bt107.1, bt107.2.1, (t113 == 0))))) = some (r1, r2, r3) := h
  clear h
  obtain ⟨y104, hy104⟩ : ∃ y_ : List (S26), y_ = (([(⟨a1_0, l1_1⟩ : S26), (⟨a2_0, l2_1⟩ : S26)] : List (S26))) := ⟨_, rfl⟩
  replace H : ((bitset_Inter.f k a0 y104).bind fun bt107 => ((slopelaw3_num.f bt107.2.2).bind fun t113 => (some (bt107.1, bt107.2.1, (t113 == 0))))) = some (r1, r2, r3) := by first | (rw [hy104]; with_reducible exact H) | (have H2_ := (Option.bind_some _ _).symm.trans H; rw [hy104]; with_reducible exact H2_) | (have H2_ := (Option.bind_some _ _).symm.trans H; with_reducible exact H2_) | with_reducible exact H | (rw [hy104]; exact H) | exact H
  have Ny104 := Aside0.mk hy104
  clear hy104
  replace H := Option.bind_eq_some_iff.mp H
  obtain ⟨⟨t107, t108, t111⟩, A40, H⟩ := H
  replace H : ((slopelaw3_num.f t111).bind fun t113 => (some (t107, t108, (t113 == 0)))) = some (r1, r2, r3) := H
  have A4 := Aside0.mk A40
  clear A40
  replace H := Option.bind_eq_some_iff.mp H
  obtain ⟨t113, A50, H⟩ := H
  replace H : (some (t107, t108, (t113 == 0))) = some (r1, r2, r3) := H
  have A5 := Aside0.mk A50
  clear A50
  simp only [Option.some.injEq, Prod.mk.injEq] at H
  obtain ⟨rfl, rfl, rfl⟩ := H
  go_enter Try.func54, Try.ntmps54
  try go_wp2_with (first | ((with_reducible refine gate_dst (N := 4) rfl ?_); refine box_event ?hg (N := 4) ?hd (cs := #[.int .i64 a1_0, .slice A1_1 l1_1.length c1_1]) (t := 26) ?hr ?_; (case hd => rfl); (case hg => rfl); (case hr => first | (go_simp; done) | (go_simp; rfl)); intro gb101 hg w6 hbox hb; have n0_ := Aside0.mk (Kd.V_below (Kd.V_elderB (by (with_reducible repeat (first | apply Kd.V_alloc | apply Kd.V_drewN | apply Kd.V_drew)); exact HO1_1.out) gb101 (Nat.le_of_eq hg.symm)) hb); have n1_ := Aside0.mk (Kd.V_below (Kd.V_elderB (by (with_reducible repeat (first | apply Kd.V_alloc | apply Kd.V_drewN | apply Kd.V_drew)); exact HO2_1.out) gb101 (Nat.le_of_eq hg.symm)) hb); have n2_ := Aside0.mk (below_step (by repeat (first | (with_reducible first | exact HB.out | apply below_alloc | apply pw_below_drewN | apply below_drew1) | exact HB.out)) hb); have n3_ := Aside0.mk (hbox); have n4_ := Aside0.mk ((by rw [hg]; exact (below_size (by repeat (first | (with_reducible first | exact HB.out | apply below_alloc | apply pw_below_drewN | apply below_drew1) | exact HB.out))) : w.heap.size ≤ gb101)); have n5_ := Aside0.mk ((by rw [hg]; exact (below_size (by repeat (first | (with_reducible first | exact HB.out | apply below_alloc | apply pw_below_drewN | apply below_drew1) | exact HB.out))) : w.heap.size ≤ gb101)); clear HO1_1; clear HO2_1; clear HB; have HO1_1 := n0_; have HO2_1 := n1_; have HB := n2_; have BK101 := n3_; have GW101 := n4_; have GE101 := n5_; clear n0_ n1_ n2_ n3_ n4_ n5_; clear hb hbox hg) | ((with_reducible refine gate_dst (N := 5) rfl ?_); refine box_event ?hg (N := 5) ?hd (cs := #[.int .i64 a2_0, .slice A2_1 l2_1.length c2_1]) (t := 26) ?hr ?_; (case hd => rfl); (case hg => rfl); (case hr => first | (go_simp; done) | (go_simp; rfl)); intro gb102 hg w7 hbox hb; have n0_ := Aside0.mk (Kd.V_below (Kd.V_elderB (by (with_reducible repeat (first | apply Kd.V_alloc | apply Kd.V_drewN | apply Kd.V_drew)); exact HO1_1.out) gb102 (Nat.le_of_eq hg.symm)) hb); have n1_ := Aside0.mk (Kd.V_below (Kd.V_elderB (by (with_reducible repeat (first | apply Kd.V_alloc | apply Kd.V_drewN | apply Kd.V_drew)); exact HO2_1.out) gb102 (Nat.le_of_eq hg.symm)) hb); have n2_ := Aside0.mk (blk_below (g := gb101) (o := .cells #[.int .i64 a1_0, .slice A1_1 l1_1.length c1_1] 26 (0, 0)) (by (with_reducible repeat (first | refine blk_drewN ?_ _ | refine blk_drew ?_ | refine blk_alloc ?_ _)); exact BK101.out) hb); have n3_ := Aside0.mk (below_step (by repeat (first | (with_reducible first | exact HB.out | apply below_alloc | apply pw_below_drewN | apply below_drew1 | refine below_set ?_ GE101.out) | exact HB.out)) hb); have n4_ := Aside0.mk (hbox); have n5_ := Aside0.mk ((by rw [hg]; exact (below_size (by repeat (first | (with_reducible first | exact HB.out | apply below_alloc | apply pw_below_drewN | apply below_drew1 | refine below_set ?_ GE101.out) | exact HB.out))) : w.heap.size ≤ gb102)); have n6_ := Aside0.mk ((by rw [hg]; exact (below_size (by repeat (first | (with_reducible first | exact HB.out | apply below_alloc | apply pw_below_drewN | apply below_drew1 | refine below_set ?_ GE101.out) | exact HB.out))) : w.heap.size ≤ gb102)); have n7_ := Aside0.mk ((by rw [hg]; exact Nat.ne_of_lt (blk_lt (g := gb101) (o := .cells #[.int .i64 a1_0, .slice A1_1 l1_1.length c1_1] 26 (0, 0)) (by (with_reducible repeat (first | refine blk_drewN ?_ _ | refine blk_drew ?_ | refine blk_alloc ?_ _)); exact BK101.out)) : gb101 ≠ gb102)); have n8_ := Aside0.mk ((by rw [hg]; exact Nat.ne_of_gt (blk_lt (g := gb101) (o := .cells #[.int .i64 a1_0, .slice A1_1 l1_1.length c1_1] 26 (0, 0)) (by (with_reducible repeat (first | refine blk_drewN ?_ _ | refine blk_drew ?_ | refine blk_alloc ?_ _)); exact BK101.out)) : gb102 ≠ gb101)); clear HO1_1; clear HO2_1; clear BK101; clear HB; have HO1_1 := n0_; have HO2_1 := n1_; have BK101 := n2_; have HB := n3_; have BK102 := n4_; have GW102 := n5_; have GE102 := n6_; have NB101_102 := n7_; have NB102_101 := n8_; clear n0_ n1_ n2_ n3_ n4_ n5_ n6_ n7_ n8_; clear hb hbox hg) | ((with_reducible refine gate_dst (N := 6) rfl ?_); refine box_event ?hg (N := 6) ?hd (cs := #[.int .i64 0, .slice none 0 0]) (t := 26) ?hr ?_; (case hd => rfl); (case hg => rfl); (case hr => first | (go_simp; done) | (go_simp; rfl)); intro gb103 hg w8 hbox hb; have n0_ := Aside0.mk (Kd.V_below (Kd.V_elderB (by (with_reducible repeat (first | apply Kd.V_alloc | apply Kd.V_drewN | apply Kd.V_drew)); exact HO1_1.out) gb103 (Nat.le_of_eq hg.symm)) hb); have n1_ := Aside0.mk (Kd.V_below (Kd.V_elderB (by (with_reducible repeat (first | apply Kd.V_alloc | apply Kd.V_drewN | apply Kd.V_drew)); exact HO2_1.out) gb103 (Nat.le_of_eq hg.symm)) hb); have n2_ := Aside0.mk (blk_below (g := gb101) (o := .cells #[.int .i64 a1_0, .slice A1_1 l1_1.length c1_1] 26 (0, 0)) (by (with_reducible repeat (first | refine blk_drewN ?_ _ | refine blk_drew ?_ | refine blk_alloc ?_ _)); exact BK101.out) hb); have n3_ := Aside0.mk (blk_below (g := gb102) (o := .cells #[.int .i64 a2_0, .slice A2_1 l2_1.length c2_1] 26 (0, 0)) (by (with_reducible repeat (first | refine blk_drewN ?_ _ | refine blk_drew ?_ | refine blk_alloc ?_ _)); exact BK102.out) hb); have n4_ := Aside0.mk (below_step (by repeat (first | (with_reducible first | exact HB.out | apply below_alloc | apply pw_below_drewN | apply below_drew1 | refine below_set ?_ GE101.out | refine below_set ?_ GE102.out) | exact HB.out)) hb); have n5_ := Aside0.mk (hbox); have n6_ := Aside0.mk ((by rw [hg]; exact (below_size (by repeat (first | (with_reducible first | exact HB.out | apply below_alloc | apply pw_below_drewN | apply below_drew1 | refine below_set ?_ GE101.out | refine below_set ?_ GE102.out) | exact HB.out))) : w.heap.size ≤ gb103)); have n7_ := Aside0.mk ((by rw [hg]; exact (below_size (by repeat (first | (with_reducible first | exact HB.out | apply below_alloc | apply pw_below_drewN | apply below_drew1 | refine below_set ?_ GE101.out | refine below_set ?_ GE102.out) | exact HB.out))) : w.heap.size ≤ gb103)); have n8_ := Aside0.mk ((by rw [hg]; exact Nat.ne_of_lt (blk_lt (g := gb101) (o := .cells #[.int .i64 a1_0, .slice A1_1 l1_1.length c1_1] 26 (0, 0)) (by (with_reducible repeat (first | refine blk_drewN ?_ _ | refine blk_drew ?_ | refine blk_alloc ?_ _)); exact BK101.out)) : gb101 ≠ gb103)); have n9_ := Aside0.mk ((by rw [hg]; exact Nat.ne_of_gt (blk_lt (g := gb101) (o := .cells #[.int .i64 a1_0, .slice A1_1 l1_1.length c1_1] 26 (0, 0)) (by (with_reducible repeat (first | refine blk_drewN ?_ _ | refine blk_drew ?_ | refine blk_alloc ?_ _)); exact BK101.out)) : gb103 ≠ gb101)); have n10_ := Aside0.mk ((by rw [hg]; exact Nat.ne_of_lt (blk_lt (g := gb102) (o := .cells #[.int .i64 a2_0, .slice A2_1 l2_1.length c2_1] 26 (0, 0)) (by (with_reducible repeat (first | refine blk_drewN ?_ _ | refine blk_drew ?_ | refine blk_alloc ?_ _)); exact BK102.out)) : gb102 ≠ gb103)); have n11_ := Aside0.mk ((by rw [hg]; exact Nat.ne_of_gt (blk_lt (g := gb102) (o := .cells #[.int .i64 a2_0, .slice A2_1 l2_1.length c2_1] 26 (0, 0)) (by (with_reducible repeat (first | refine blk_drewN ?_ _ | refine blk_drew ?_ | refine blk_alloc ?_ _)); exact BK102.out)) : gb103 ≠ gb102)); clear HO1_1; clear HO2_1; clear BK101; clear BK102; clear HB; have HO1_1 := n0_; have HO2_1 := n1_; have BK101 := n2_; have BK102 := n3_; have HB := n4_; have BK103 := n5_; have GW103 := n6_; have GE103 := n7_; have NB101_103 := n8_; have NB103_101 := n9_; have NB102_103 := n10_; have NB103_102 := n11_; clear n0_ n1_ n2_ n3_ n4_ n5_ n6_ n7_ n8_ n9_ n10_ n11_; clear hb hbox hg; have hnb9 := NB101_102.out; have hnc9 := NB102_101.out; have hnb10 := NB101_103.out; have hnc10 := NB103_101.out; have hcz11_0 : w8.cell? ⟨gb101, 0, none⟩ = some (.int .i64 a1_0) := (blk_cell BK101.out 0).trans rfl; have hcz11_1 : w8.cell? ⟨gb101, 1, none⟩ = some (.slice A1_1 l1_1.length c1_1) := (blk_cell BK101.out 1).trans rfl; have hfz11_0 := blk_frozen BK101.out 0; have hfz11_1 := blk_frozen BK101.out 1; have hnb12 := NB102_103.out; have hnc12 := NB103_102.out; have hcz13_0 : w8.cell? ⟨gb102, 0, none⟩ = some (.int .i64 a2_0) := (blk_cell BK102.out 0).trans rfl; have hcz13_1 : w8.cell? ⟨gb102, 1, none⟩ = some (.slice A2_1 l2_1.length c2_1) := (blk_cell BK102.out 1).trans rfl; have hfz13_0 := blk_frozen BK102.out 0; have hfz13_1 := blk_frozen BK102.out 1) | ((with_reducible refine gate_dst (N := 14) rfl ?_); refine Kd.N_lit k26 _ 26 ?hg (N' := 14) ?hd (xs := ([(⟨a1_0, l1_1⟩ : S26), (⟨a2_0, l2_1⟩ : S26)] : List (S26))) (inner := [.int .i64 a1_0, .slice A1_1 l1_1.length c1_1, .int .i64 a2_0, .slice A2_1 l2_1.length c2_1]) (ok := (fun k_ => ((P1_1_ k_ ∨ P2_1_ k_) ∨ w.heap.size ≤ k_) ∧ k_ ≠ gb101 ∧ k_ ≠ gb102 ∧ k_ ≠ gb103)) (okp := (fun k_ => ((P1_1_ k_ ∨ P2_1_ k_) ∨ w.heap.size ≤ k_) ∧ k_ ≠ gb101 ∧ k_ ≠ gb102 ∧ k_ ≠ gb103)) ?hr ?hp (fun _ hk => hk) ((show ∀ k_, w8.heap.size ≤ k_ → (fun k_ => ((P1_1_ k_ ∨ P2_1_ k_) ∨ w.heap.size ≤ k_) ∧ k_ ≠ gb101 ∧ k_ ≠ gb102 ∧ k_ ≠ gb103) k_ from fun k_ hk => ⟨(.inr (Nat.le_trans (below_size (by repeat (first | (with_reducible first | exact HB.out | apply below_alloc | apply pw_below_drewN | apply below_drew1 | refine below_set ?_ GE101.out | refine below_set ?_ GE102.out | refine below_set ?_ GE103.out) | exact HB.out))) hk)), Kd.freshB (g := gb101) (o := .cells #[.int .i64 a1_0, .slice A1_1 l1_1.length c1_1] 26 (0, 0)) (by (with_reducible repeat (first | refine blk_drewN ?_ _ | refine blk_drew ?_ | refine blk_alloc ?_ _)); exact BK101.out) k_ hk, Kd.freshB (g := gb102) (o := .cells #[.int .i64 a2_0, .slice A2_1 l2_1.length c2_1] 26 (0, 0)) (by (with_reducible repeat (first | refine blk_drewN ?_ _ | refine blk_drew ?_ | refine blk_alloc ?_ _)); exact BK102.out) k_ hk, Kd.freshB (g := gb103) (o := .cells #[.int .i64 0, .slice none 0 0] 26 (0, 0)) (by (with_reducible repeat (first | refine blk_drewN ?_ _ | refine blk_drew ?_ | refine blk_alloc ?_ _)); exact BK103.out) k_ hk⟩) _ (Nat.le_refl _)) (Below.refl _ _) (Nat.le_refl _) (by simp) ?_; (case hd => rfl); (case hg => rfl); (case hr => first | (go_simp; done) | (go_simp; rfl)); (case hp => exact (Reps.c2 (show Kd.FK k26 _ _ (⟨a1_0, l1_1⟩ : S26) [.int .i64 a1_0, .slice A1_1 l1_1.length c1_1] from (k26_mkF _ _ (⟨a1_0, l1_1⟩ : S26) (Kd.V_reads' (Kd.V_mono (ok' := (fun k_ => ((P1_1_ k_ ∨ P2_1_ k_) ∨ w.heap.size ≤ k_) ∧ k_ ≠ gb101 ∧ k_ ≠ gb102 ∧ k_ ≠ gb103)) (HO1_1.out) (fun k_ hk => ⟨hk.1.1.1, ⟨hk.1.1.2, ⟨hk.1.2, hk.2⟩⟩⟩))).2.1 (Kd.V_F (Kd.V_mono (ok' := (fun k_ => ((P1_1_ k_ ∨ P2_1_ k_) ∨ w.heap.size ≤ k_) ∧ k_ ≠ gb101 ∧ k_ ≠ gb102 ∧ k_ ≠ gb103)) (HO1_1.out) (fun k_ hk => ⟨hk.1.1.1, ⟨hk.1.1.2, ⟨hk.1.2, hk.2⟩⟩⟩))))) (Reps.c2 (show Kd.FK k26 _ _ (⟨a2_0, l2_1⟩ : S26) [.int .i64 a2_0, .slice A2_1 l2_1.length c2_1] from (k26_mkF _ _ (⟨a2_0, l2_1⟩ : S26) (Kd.V_reads' (Kd.V_mono (ok' := (fun k_ => ((P1_1_ k_ ∨ P2_1_ k_) ∨ w.heap.size ≤ k_) ∧ k_ ≠ gb101 ∧ k_ ≠ gb102 ∧ k_ ≠ gb103)) (HO2_1.out) (fun k_ hk => ⟨hk.1.1.1, ⟨hk.1.1.2, ⟨hk.1.2, hk.2⟩⟩⟩))).2.1 (Kd.V_F (Kd.V_mono (ok' := (fun k_ => ((P1_1_ k_ ∨ P2_1_ k_) ∨ w.heap.size ≤ k_) ∧ k_ ≠ gb101 ∧ k_ ≠ gb102 ∧ k_ ≠ gb103)) (HO2_1.out) (fun k_ hk => ⟨hk.1.1.1, ⟨hk.1.1.2, ⟨hk.1.2, hk.2⟩⟩⟩))))) (Reps.none _ _)))); intro v105 w14 ho15 hb hg_ hnew_; clear hg_ hnew_; (first | rw [← Ny104.out] at ho15 | (simp only [Int.reduceToNat] at ho15; rw [← Ny104.out] at ho15)); have n0_ := Aside0.mk (Kd.V_elder' (by (with_reducible repeat (first | apply Kd.V_alloc | apply Kd.V_drewN | apply Kd.V_drew)); exact HO1_1.out) (Kd.N_base ho15) hb); have n1_ := Aside0.mk (Kd.V_elder' (by (with_reducible repeat (first | apply Kd.V_alloc | apply Kd.V_drewN | apply Kd.V_drew)); exact HO2_1.out) (Kd.N_base ho15) hb); have n2_ := Aside0.mk (Kd.N_lower ho15 (below_size (by repeat (first | (with_reducible first | exact HB.out | apply below_alloc | apply pw_below_drewN | apply below_drew1 | refine below_set ?_ GE101.out | refine below_set ?_ GE102.out | refine below_set ?_ GE103.out) | exact HB.out)))); have n3_ := Aside0.mk (blk_below (g := gb101) (o := .cells #[.int .i64 a1_0, .slice A1_1 l1_1.length c1_1] 26 (0, 0)) (by (with_reducible repeat (first | refine blk_drewN ?_ _ | refine blk_drew ?_ | refine blk_alloc ?_ _)); exact BK101.out) hb); have n4_ := Aside0.mk (blk_below (g := gb102) (o := .cells #[.int .i64 a2_0, .slice A2_1 l2_1.length c2_1] 26 (0, 0)) (by (with_reducible repeat (first | refine blk_drewN ?_ _ | refine blk_drew ?_ | refine blk_alloc ?_ _)); exact BK102.out) hb); have n5_ := Aside0.mk (blk_below (g := gb103) (o := .cells #[.int .i64 0, .slice none 0 0] 26 (0, 0)) (by (with_reducible repeat (first | refine blk_drewN ?_ _ | refine blk_drew ?_ | refine blk_alloc ?_ _)); exact BK103.out) hb); have n6_ := Aside0.mk (below_step (by repeat (first | (with_reducible first | exact HB.out | apply below_alloc | apply pw_below_drewN | apply below_drew1 | refine below_set ?_ GE101.out | refine below_set ?_ GE102.out | refine below_set ?_ GE103.out) | exact HB.out)) hb); clear HO1_1; clear HO2_1; clear BK101; clear BK102; clear BK103; clear HB; have HO1_1 := n0_; have HO2_1 := n1_; have HO106 := n2_; have BK101 := n3_; have BK102 := n4_; have BK103 := n5_; have HB := n6_; clear n0_ n1_ n2_ n3_ n4_ n5_ n6_; clear hb ho15; obtain ⟨Ao16, co16, eo16⟩ := Kd.N_slice HO106.out; subst eo16) | ((with_reducible refine gate_callee (f := 34) rfl ?_); refine goesL_ (some 15) rfl rfl Try.func34 (by kernel_rfl) rfl #[.int .i64 a0, .slice Ao16 y104.length co16] rfl (by (try simp only [List.map_toArray, List.map_cons, List.map_nil]); first | done | rfl | (simp only [List.length_drop, List.length_take]; rfl)) ?_; (with_reducible refine (bitset_Inter.calls k a0 _ _ y104 t107 t108 t111 _ ?side1 ?side2 A4.out).mono ?_); (case side1 => repeat (first | exact (Kd.N_reads' HO106.out).2.2 | (with_reducible refine Kd.C_alloc ?_ _) | (with_reducible refine Kd.C_drewN ?_ _) | (with_reducible refine Kd.C_drew ?_))); (case side2 => exact (Kd.N_reads' HO106.out).2.1); rintro e w17 ⟨v109, rfl, ho0, hb⟩; refine ⟨_, rfl, ?_⟩; have n0_ := Aside0.mk (Kd.V_elder' (by (with_reducible repeat (first | apply Kd.V_alloc | apply Kd.V_drewN | apply Kd.V_drew)); exact HO1_1.out) (Kd.R_base ho0) hb); have n1_ := Aside0.mk (Kd.V_elder' (by (with_reducible repeat (first | apply Kd.V_alloc | apply Kd.V_drewN | apply Kd.V_drew)); exact HO2_1.out) (Kd.R_base ho0) hb); have n2_ := Aside0.mk (Kd.N_elder' (by (with_reducible repeat (first | apply Kd.N_alloc | apply Kd.N_drewN | apply Kd.N_drew)); exact HO106.out) (Kd.R_base ho0) hb); have n3_ := Aside0.mk (Kd.R_lower (Kd.R_newM (M := fun k_ => (w.heap.size ≤ k_)) ho0 (below_size (by repeat (first | (with_reducible first | exact HB.out | apply below_alloc | apply pw_below_drewN | apply below_drew1 | refine below_set ?_ GE101.out | refine below_set ?_ GE102.out | refine below_set ?_ GE103.out) | exact HB.out))) (fun k_ h_ => h_)) (below_size (by repeat (first | (with_reducible first | exact HB.out | apply below_alloc | apply pw_below_drewN | apply below_drew1 | refine below_set ?_ GE101.out | refine below_set ?_ GE102.out | refine below_set ?_ GE103.out) | exact HB.out)))); have n4_ := Aside0.mk (blk_below (g := gb101) (o := .cells #[.int .i64 a1_0, .slice A1_1 l1_1.length c1_1] 26 (0, 0)) (by (with_reducible repeat (first | refine blk_drewN ?_ _ | refine blk_drew ?_ | refine blk_alloc ?_ _)); exact BK101.out) hb); have n5_ := Aside0.mk (blk_below (g := gb102) (o := .cells #[.int .i64 a2_0, .slice A2_1 l2_1.length c2_1] 26 (0, 0)) (by (with_reducible repeat (first | refine blk_drewN ?_ _ | refine blk_drew ?_ | refine blk_alloc ?_ _)); exact BK102.out) hb); have n6_ := Aside0.mk (blk_below (g := gb103) (o := .cells #[.int .i64 0, .slice none 0 0] 26 (0, 0)) (by (with_reducible repeat (first | refine blk_drewN ?_ _ | refine blk_drew ?_ | refine blk_alloc ?_ _)); exact BK103.out) hb); have n7_ := Aside0.mk (below_step (by repeat (first | (with_reducible first | exact HB.out | apply below_alloc | apply pw_below_drewN | apply below_drew1 | refine below_set ?_ GE101.out | refine below_set ?_ GE102.out | refine below_set ?_ GE103.out) | exact HB.out)) hb); clear HO1_1; clear HO2_1; clear HO106; clear BK101; clear BK102; clear BK103; clear HB; have HO1_1 := n0_; have HO2_1 := n1_; have HO106 := n2_; have HO110 := n3_; have BK101 := n4_; have BK102 := n5_; have BK103 := n6_; have HB := n7_; clear n0_ n1_ n2_ n3_ n4_ n5_ n6_ n7_; (try clear hb); (try clear hb2); (try clear hk); (try clear hi); (try clear ho0)) | ((with_reducible refine gate_dst (N := 8) rfl ?_); refine box_event ?hg (N := 8) ?hd (cs := #[.int .i64 0, .slice none 0 0]) (t := 26) ?hr ?_; (case hd => rfl); (case hg => rfl); (case hr => first | (go_simp; done) | (go_simp; rfl)); intro gb112 hg w18 hbox hb; have n0_ := Aside0.mk (Kd.V_below (Kd.V_elderB (by (with_reducible repeat (first | apply Kd.V_alloc | apply Kd.V_drewN | apply Kd.V_drew)); exact HO1_1.out) gb112 (Nat.le_of_eq hg.symm)) hb); have n1_ := Aside0.mk (Kd.V_below (Kd.V_elderB (by (with_reducible repeat (first | apply Kd.V_alloc | apply Kd.V_drewN | apply Kd.V_drew)); exact HO2_1.out) gb112 (Nat.le_of_eq hg.symm)) hb); have n2_ := Aside0.mk (Kd.N_below (Kd.N_elderB (by (with_reducible repeat (first | apply Kd.N_alloc | apply Kd.N_drewN | apply Kd.N_drew)); exact HO106.out) gb112 (Nat.le_of_eq hg.symm)) hb); have n3_ := Aside0.mk (Kd.R_below (by (with_reducible repeat (first | apply Kd.R_alloc | apply Kd.R_drewN | apply Kd.R_drew)); exact HO110.out) hb); have n4_ := Aside0.mk (blk_below (g := gb101) (o := .cells #[.int .i64 a1_0, .slice A1_1 l1_1.length c1_1] 26 (0, 0)) (by (with_reducible repeat (first | refine blk_drewN ?_ _ | refine blk_drew ?_ | refine blk_alloc ?_ _)); exact BK101.out) hb); have n5_ := Aside0.mk (blk_below (g := gb102) (o := .cells #[.int .i64 a2_0, .slice A2_1 l2_1.length c2_1] 26 (0, 0)) (by (with_reducible repeat (first | refine blk_drewN ?_ _ | refine blk_drew ?_ | refine blk_alloc ?_ _)); exact BK102.out) hb); have n6_ := Aside0.mk (blk_below (g := gb103) (o := .cells #[.int .i64 0, .slice none 0 0] 26 (0, 0)) (by (with_reducible repeat (first | refine blk_drewN ?_ _ | refine blk_drew ?_ | refine blk_alloc ?_ _)); exact BK103.out) hb); have n7_ := Aside0.mk (below_step (by repeat (first | (with_reducible first | exact HB.out | apply below_alloc | apply pw_below_drewN | apply below_drew1 | refine below_set ?_ GE101.out | refine below_set ?_ GE102.out | refine below_set ?_ GE103.out) | exact HB.out)) hb); have n8_ := Aside0.mk (hbox); have n9_ := Aside0.mk ((by rw [hg]; exact (below_size (by repeat (first | (with_reducible first | exact HB.out | apply below_alloc | apply pw_below_drewN | apply below_drew1 | refine below_set ?_ GE101.out | refine below_set ?_ GE102.out | refine below_set ?_ GE103.out) | exact HB.out))) : w.heap.size ≤ gb112)); have n10_ := Aside0.mk ((by rw [hg]; exact (below_size (by repeat (first | (with_reducible first | exact HB.out | apply below_alloc | apply pw_below_drewN | apply below_drew1 | refine below_set ?_ GE101.out | refine below_set ?_ GE102.out | refine below_set ?_ GE103.out) | exact HB.out))) : w.heap.size ≤ gb112)); have n11_ := Aside0.mk ((by rw [hg]; exact Nat.ne_of_lt (blk_lt (g := gb101) (o := .cells #[.int .i64 a1_0, .slice A1_1 l1_1.length c1_1] 26 (0, 0)) (by (with_reducible repeat (first | refine blk_drewN ?_ _ | refine blk_drew ?_ | refine blk_alloc ?_ _)); exact BK101.out)) : gb101 ≠ gb112)); have n12_ := Aside0.mk ((by rw [hg]; exact Nat.ne_of_gt (blk_lt (g := gb101) (o := .cells #[.int .i64 a1_0, .slice A1_1 l1_1.length c1_1] 26 (0, 0)) (by (with_reducible repeat (first | refine blk_drewN ?_ _ | refine blk_drew ?_ | refine blk_alloc ?_ _)); exact BK101.out)) : gb112 ≠ gb101)); have n13_ := Aside0.mk ((by rw [hg]; exact Nat.ne_of_lt (blk_lt (g := gb102) (o := .cells #[.int .i64 a2_0, .slice A2_1 l2_1.length c2_1] 26 (0, 0)) (by (with_reducible repeat (first | refine blk_drewN ?_ _ | refine blk_drew ?_ | refine blk_alloc ?_ _)); exact BK102.out)) : gb102 ≠ gb112)); have n14_ := Aside0.mk ((by rw [hg]; exact Nat.ne_of_gt (blk_lt (g := gb102) (o := .cells #[.int .i64 a2_0, .slice A2_1 l2_1.length c2_1] 26 (0, 0)) (by (with_reducible repeat (first | refine blk_drewN ?_ _ | refine blk_drew ?_ | refine blk_alloc ?_ _)); exact BK102.out)) : gb112 ≠ gb102)); have n15_ := Aside0.mk ((by rw [hg]; exact Nat.ne_of_lt (blk_lt (g := gb103) (o := .cells #[.int .i64 0, .slice none 0 0] 26 (0, 0)) (by (with_reducible repeat (first | refine blk_drewN ?_ _ | refine blk_drew ?_ | refine blk_alloc ?_ _)); exact BK103.out)) : gb103 ≠ gb112)); have n16_ := Aside0.mk ((by rw [hg]; exact Nat.ne_of_gt (blk_lt (g := gb103) (o := .cells #[.int .i64 0, .slice none 0 0] 26 (0, 0)) (by (with_reducible repeat (first | refine blk_drewN ?_ _ | refine blk_drew ?_ | refine blk_alloc ?_ _)); exact BK103.out)) : gb112 ≠ gb103)); clear HO1_1; clear HO2_1; clear HO106; clear HO110; clear BK101; clear BK102; clear BK103; clear HB; have HO1_1 := n0_; have HO2_1 := n1_; have HO106 := n2_; have HO110 := n3_; have BK101 := n4_; have BK102 := n5_; have BK103 := n6_; have HB := n7_; have BK112 := n8_; have GW112 := n9_; have GE112 := n10_; have NB101_112 := n11_; have NB112_101 := n12_; have NB102_112 := n13_; have NB112_102 := n14_; have NB103_112 := n15_; have NB112_103 := n16_; clear n0_ n1_ n2_ n3_ n4_ n5_ n6_ n7_ n8_ n9_ n10_ n11_ n12_ n13_ n14_ n15_ n16_; clear hb hbox hg; have hnb19 := NB112_101.out; have hnc19 := NB101_112.out; have hnb20 := NB112_102.out; have hnc20 := NB102_112.out; have hnb21 := NB112_103.out; have hnc21 := NB103_112.out; have hcz22_0 : w18.cell? ⟨gb112, 0, none⟩ = some (.int .i64 0) := (blk_cell BK112.out 0).trans rfl; have hcz22_1 : w18.cell? ⟨gb112, 1, none⟩ = some (.slice none 0 0) := (blk_cell BK112.out 1).trans rfl; have hfz22_0 := blk_frozen BK112.out 0; have hfz22_1 := blk_frozen BK112.out 1; obtain ⟨Ao23, co23, eo23⟩ := Kd.R_slice HO110.out; subst eo23))
  have n0_ : Aside0 (Kd.V (Kd.int .u64) 82 ((w18.setCell ⟨gb112, 0, none⟩ (.int .i64 t107)).setCell ⟨gb112, 1, none⟩ (.slice Ao23 t108.length co23)) w.heap.size (fun k_ => ((P1_1_ k_ ∨ P2_1_ k_) ∨ w.heap.size ≤ k_) ∧ some k_ ≠ (.slice Ao16 y104.length co16 : Value).ownBlock ∧ some k_ ≠ (.slice Ao23 t108.length co23 : Value).ownBlock ∧ k_ ≠ gb101 ∧ k_ ≠ gb102 ∧ k_ ≠ gb103 ∧ k_ ≠ gb112) (.slice A1_1 l1_1.length c1_1) l1_1) := ⟨by (with_reducible repeat (first | apply Kd.V_alloc | apply Kd.V_drewN | apply Kd.V_drew)); exact Kd.V_mono (Kd.V_far (p := ⟨gb112, 1, none⟩) (Kd.V_far (p := ⟨gb112, 0, none⟩) (Kd.V_mono HO1_1.out (fun k_ hk => (⟨hk, hk.2⟩ : _ ∧ k_ ≠ gb112))) (fun _ hk => hk.2) (.int .i64 t107)) (fun _ hk => hk.2) (.slice Ao23 t108.length co23)) (fun _ hk => ⟨hk.1.1.1.1.1.1.1, ⟨hk.1.1.1.2, ⟨hk.1.1.2, ⟨hk.1.1.1.1.1.1.2, ⟨hk.1.1.1.1.1.2, ⟨hk.1.1.1.1.2, hk.1.2⟩⟩⟩⟩⟩⟩)⟩
  have n1_ : Aside0 (Kd.V (Kd.int .u64) 82 ((w18.setCell ⟨gb112, 0, none⟩ (.int .i64 t107)).setCell ⟨gb112, 1, none⟩ (.slice Ao23 t108.length co23)) w.heap.size (fun k_ => ((P1_1_ k_ ∨ P2_1_ k_) ∨ w.heap.size ≤ k_) ∧ some k_ ≠ (.slice Ao16 y104.length co16 : Value).ownBlock ∧ some k_ ≠ (.slice Ao23 t108.length co23 : Value).ownBlock ∧ k_ ≠ gb101 ∧ k_ ≠ gb102 ∧ k_ ≠ gb103 ∧ k_ ≠ gb112) (.slice A2_1 l2_1.length c2_1) l2_1) := ⟨by (with_reducible repeat (first | apply Kd.V_alloc | apply Kd.V_drewN | apply Kd.V_drew)); exact Kd.V_mono (Kd.V_far (p := ⟨gb112, 1, none⟩) (Kd.V_far (p := ⟨gb112, 0, none⟩) (Kd.V_mono HO2_1.out (fun k_ hk => (⟨hk, hk.2⟩ : _ ∧ k_ ≠ gb112))) (fun _ hk => hk.2) (.int .i64 t107)) (fun _ hk => hk.2) (.slice Ao23 t108.length co23)) (fun _ hk => ⟨hk.1.1.1.1.1.1.1, ⟨hk.1.1.1.2, ⟨hk.1.1.2, ⟨hk.1.1.1.1.1.1.2, ⟨hk.1.1.1.1.1.2, ⟨hk.1.1.1.1.2, hk.1.2⟩⟩⟩⟩⟩⟩)⟩
  have n2_ : Aside0 (Kd.N k26 26 ((w18.setCell ⟨gb112, 0, none⟩ (.int .i64 t107)).setCell ⟨gb112, 1, none⟩ (.slice Ao23 t108.length co23)) w.heap.size (fun k_ => ((P1_1_ k_ ∨ P2_1_ k_) ∨ w.heap.size ≤ k_) ∧ some k_ ≠ (.slice Ao23 t108.length co23 : Value).ownBlock ∧ k_ ≠ gb101 ∧ k_ ≠ gb102 ∧ k_ ≠ gb103 ∧ k_ ≠ gb112) (.slice Ao16 y104.length co16) y104) := ⟨by (with_reducible repeat (first | apply Kd.N_alloc | apply Kd.N_drewN | apply Kd.N_drew)); exact Kd.N_mono (Kd.N_far (p := ⟨gb112, 1, none⟩) (Kd.N_far (p := ⟨gb112, 0, none⟩) (Kd.N_mono HO106.out (fun k_ hk => (⟨hk, hk.2⟩ : _ ∧ k_ ≠ gb112))) (fun _ hk => hk.2) (.int .i64 t107)) (fun _ hk => hk.2) (.slice Ao23 t108.length co23)) (fun _ hk => ⟨hk.1.1.1.1, ⟨hk.1.1.2, ⟨hk.1.1.1.2.1, ⟨hk.1.1.1.2.2.1, ⟨hk.1.1.1.2.2.2, hk.1.2⟩⟩⟩⟩⟩)⟩
  have n3_ : Aside0 (Kd.R (Kd.int .u64) 82 ((w18.setCell ⟨gb112, 0, none⟩ (.int .i64 t107)).setCell ⟨gb112, 1, none⟩ (.slice Ao23 t108.length co23)) w.heap.size (fun k_ => (w.heap.size ≤ k_)) (.slice Ao23 t108.length co23) t108) := ⟨by (with_reducible repeat (first | apply Kd.R_alloc | apply Kd.R_drewN | apply Kd.R_drew)); exact Kd.R_mono (Kd.R_far (p := ⟨gb112, 1, none⟩) (Kd.R_far (p := ⟨gb112, 0, none⟩) (Kd.R_types HO110.out BK112.out (by decide)) (fun _ hk => hk.2) (.int .i64 t107)) (fun _ hk => hk.2) (.slice Ao23 t108.length co23)) (fun _ hk => hk.1.1)⟩
  have n4_ : Aside0 (((w18.setCell ⟨gb112, 0, none⟩ (.int .i64 t107)).setCell ⟨gb112, 1, none⟩ (.slice Ao23 t108.length co23)).heap[gb101]? = some (.cells #[.int .i64 a1_0, .slice A1_1 l1_1.length c1_1] 26 (0, 0))) := ⟨by (with_reducible repeat (first | refine blk_drewN ?_ _ | refine blk_drew ?_ | refine blk_alloc ?_ _)); refine blk_far ?_ NB101_112.out _; (with_reducible repeat (first | refine blk_drewN ?_ _ | refine blk_drew ?_ | refine blk_alloc ?_ _)); refine blk_far ?_ NB101_112.out _; (with_reducible repeat (first | refine blk_drewN ?_ _ | refine blk_drew ?_ | refine blk_alloc ?_ _)); exact BK101.out⟩
  have n5_ : Aside0 (((w18.setCell ⟨gb112, 0, none⟩ (.int .i64 t107)).setCell ⟨gb112, 1, none⟩ (.slice Ao23 t108.length co23)).heap[gb102]? = some (.cells #[.int .i64 a2_0, .slice A2_1 l2_1.length c2_1] 26 (0, 0))) := ⟨by (with_reducible repeat (first | refine blk_drewN ?_ _ | refine blk_drew ?_ | refine blk_alloc ?_ _)); refine blk_far ?_ NB102_112.out _; (with_reducible repeat (first | refine blk_drewN ?_ _ | refine blk_drew ?_ | refine blk_alloc ?_ _)); refine blk_far ?_ NB102_112.out _; (with_reducible repeat (first | refine blk_drewN ?_ _ | refine blk_drew ?_ | refine blk_alloc ?_ _)); exact BK102.out⟩
  have n6_ : Aside0 (((w18.setCell ⟨gb112, 0, none⟩ (.int .i64 t107)).setCell ⟨gb112, 1, none⟩ (.slice Ao23 t108.length co23)).heap[gb103]? = some (.cells #[.int .i64 0, .slice none 0 0] 26 (0, 0))) := ⟨by (with_reducible repeat (first | refine blk_drewN ?_ _ | refine blk_drew ?_ | refine blk_alloc ?_ _)); refine blk_far ?_ NB103_112.out _; (with_reducible repeat (first | refine blk_drewN ?_ _ | refine blk_drew ?_ | refine blk_alloc ?_ _)); refine blk_far ?_ NB103_112.out _; (with_reducible repeat (first | refine blk_drewN ?_ _ | refine blk_drew ?_ | refine blk_alloc ?_ _)); exact BK103.out⟩
  have n7_ : Aside0 (((w18.setCell ⟨gb112, 0, none⟩ (.int .i64 t107)).setCell ⟨gb112, 1, none⟩ (.slice Ao23 t108.length co23)).heap[gb112]? = some (.cells #[.int .i64 t107, .slice Ao23 t108.length co23] 26 (0, 0))) := ⟨by (with_reducible repeat (first | refine blk_drewN ?_ _ | refine blk_drew ?_ | refine blk_alloc ?_ _)); refine blk_put (cs := #[.int .i64 t107, .slice none 0 0]) ?_ 1 _ rfl; (with_reducible repeat (first | refine blk_drewN ?_ _ | refine blk_drew ?_ | refine blk_alloc ?_ _)); refine blk_put (cs := #[.int .i64 0, .slice none 0 0]) ?_ 0 _ rfl; (with_reducible repeat (first | refine blk_drewN ?_ _ | refine blk_drew ?_ | refine blk_alloc ?_ _)); exact BK112.out⟩
  have n8_ : Aside0 (Below w.heap.size w ((w18.setCell ⟨gb112, 0, none⟩ (.int .i64 t107)).setCell ⟨gb112, 1, none⟩ (.slice Ao23 t108.length co23))) := ⟨by repeat (first | (with_reducible first | exact HB.out | apply below_alloc | apply pw_below_drewN | apply below_drew1 | refine below_set ?_ GE101.out | refine below_set ?_ GE102.out | refine below_set ?_ GE103.out | refine below_set ?_ GE112.out) | exact HB.out)⟩
  (try clear HO1_1)
  (try clear HO2_1)
  (try clear HO106)
  (try clear HO110)
  (try clear BK101)
  (try clear BK102)
  (try clear BK103)
  (try clear BK112)
  (try clear HB)
  generalize ((w18.setCell ⟨gb112, 0, none⟩ (.int .i64 t107)).setCell ⟨gb112, 1, none⟩ (.slice Ao23 t108.length co23)) = w24 at n0_ n1_ n2_ n3_ n4_ n5_ n6_ n7_ n8_ ⊢
  have HO1_1 := n0_
  have HO2_1 := n1_
  have HO106 := n2_
  have HO110 := n3_
  have BK101 := n4_
  have BK102 := n5_
  have BK103 := n6_
  have BK112 := n7_
  have HB := n8_
  clear n0_ n1_ n2_ n3_ n4_ n5_ n6_ n7_ n8_
  have n0_ := Aside0.mk (Kd.V_drew HO1_1.out)
  have n1_ := Aside0.mk (Kd.V_drew HO2_1.out)
  have n2_ := Aside0.mk (Kd.N_drew HO106.out)
  have n3_ := Aside0.mk (Kd.R_drew HO110.out)
  have n4_ := Aside0.mk (blk_drew BK101.out)
  have n5_ := Aside0.mk (blk_drew BK102.out)
  have n6_ := Aside0.mk (blk_drew BK103.out)
  have n7_ := Aside0.mk (blk_drew BK112.out)
  have n8_ := Aside0.mk (below_drew1 HB.out)
  clear HO1_1
  clear HO2_1
  clear HO106
  clear HO110
  clear BK101
  clear BK102
  clear BK103
  clear BK112
  clear HB
  have HO1_1 := n0_
  have HO2_1 := n1_
  have HO106 := n2_
  have HO110 := n3_
  have BK101 := n4_
  have BK102 := n5_
  have BK103 := n6_
  have BK112 := n7_
  have HB := n8_
  clear n0_ n1_ n2_ n3_ n4_ n5_ n6_ n7_ n8_
  refine start_ (n := 6) (S := fun w' => w'.cell? ⟨gb112, 0, none⟩ = some (.int .i64 t107) ∧ w'.cell? ⟨gb112, 1, none⟩ = some (.slice Ao23 t108.length co23)) (ds := []) #[false, false, false, false, false, false] (by kernel_rfl) rfl rfl ⟨(blk_cell BK112.out 0).trans rfl, (blk_cell BK112.out 1).trans rfl⟩ (fun hHeld => ?_)
  generalize w24.drew = w25 at HO1_1 HO2_1 HO106 HO110 BK101 BK102 BK103 BK112 HB hHeld ⊢
  refine pure_ (i := 1) (N := some 19) (v := ?_) (a' := ?_) #[false, true, false, false, false, false] rfl rfl (by kernel_rfl) (fun _ _ _ h => h) (Or.inl ⟨by rfl, ?_⟩) ?_ ?_
  rotate_left
  · intro w'
    go_simp
    with_reducible rfl
  rotate_left
  · simp only [Act.put, List.setIfInBounds_toArray, List.set_cons_zero, List.set_cons_succ, i64_w, i32_w]
    rfl
  refine take_ (i := 0) (N := some 18) (v := ?_) (a' := ?_) #[true, true, false, false, false, false] rfl rfl (by kernel_rfl) (fun _ _ _ h => h) (Or.inl ⟨by rfl, ?_⟩) hHeld ?_ ?_
  rotate_left
  · rintro w' ⟨s0, s1⟩
    go_simp
    with_reducible rfl
  rotate_left
  · simp only [Act.put, List.setIfInBounds_toArray, List.set_cons_zero, List.set_cons_succ, i64_w, i32_w]
    rfl
  refine one_ (i := 2) (N := some 20) #[true, true, true, false, false, false] rfl rfl (by kernel_rfl) (by decide) (fun K hK => ?_)
  refine goes_ Try.func19 (by kernel_rfl) rfl #[.int .i64 t111] (by rfl) rfl rfl (by (try simp only [List.map_toArray, List.map_cons, List.map_nil]); first | done | rfl | (simp only [List.length_drop, List.length_take]; rfl)) ?_
  with_reducible refine (slopelaw3_num.calls t111 t113 _ A5.out).mono ?_
  rintro e w' ⟨rfl, ⟨nd, rfl⟩⟩
  refine ⟨_, rfl, ?_⟩
  refine hK.out _ _ ⟨(blk_cell BK112.out 0).trans rfl, (blk_cell BK112.out 1).trans rfl⟩ (fun hHeld => ?_)
  clear hK K
  refine norm_ (a' := ?_) ?_ ?_
  rotate_left
  · show Act.put _ (some 20) _ = _
    simp only [Act.put, List.setIfInBounds_toArray, List.set_cons_zero, List.set_cons_succ, i64_w, i32_w]
    rfl
  refine pure_ (i := 3) (N := some 21) (v := ?_) (a' := ?_) #[true, true, true, true, false, false] rfl rfl (by kernel_rfl) (fun _ _ _ h => h) (Or.inl ⟨by rfl, ?_⟩) ?_ ?_
  rotate_left
  · intro w'
    go_simp
    with_reducible rfl
  rotate_left
  · simp only [Act.put, List.setIfInBounds_toArray, List.set_cons_zero, List.set_cons_succ, i64_w, i32_w]
    rfl
  refine one_ (i := 4) (N := none) #[true, true, true, true, true, false] rfl rfl (by kernel_rfl) (by decide) (fun K hK => ?_)
  have hs26 : w25.cell? ⟨gb103, 0, none⟩ = some (.int .i64 0) := (blk_cell BK103.out 0).trans rfl
  have hfs26 := blk_frozen BK103.out 0
  have hns26_0 := NB101_103.out
  have hns26_1 := NB102_103.out
  have hns26_3 := NB112_103.out
  have hms26_0 := NB103_101.out
  have hms26_1 := NB103_102.out
  have hms26_3 := NB103_112.out
  have hs27 : w25.cell? ⟨gb103, 1, none⟩ = some (.slice none 0 0) := (blk_cell BK103.out 1).trans rfl
  have hfs27 := blk_frozen BK103.out 1
  have hns27_0 := NB101_103.out
  have hns27_1 := NB102_103.out
  have hns27_3 := NB112_103.out
  have hms27_0 := NB103_101.out
  have hms27_1 := NB103_102.out
  have hms27_3 := NB103_112.out
  refine skip_ (w1 := ?_) (by rfl) rfl ?_ ?_
  rotate_left
  · go_simp
    rfl
  refine hK.out _ _ ⟨((cell_far (p := ⟨gb103, _, none⟩) NB112_103.out _).trans (((cell_far (p := ⟨gb103, _, none⟩) NB112_103.out _).trans (hHeld.1)))), ((cell_far (p := ⟨gb103, _, none⟩) NB112_103.out _).trans (((cell_far (p := ⟨gb103, _, none⟩) NB112_103.out _).trans (hHeld.2))))⟩ (fun hHeld => ?_)
  clear hK K
  refine pure_ (i := 5) (N := some 7) (v := ?_) (a' := ?_) #[true, true, true, true, true, true] rfl rfl (by kernel_rfl) (fun _ _ _ h => h) (Or.inl ⟨by rfl, ?_⟩) ?_ ?_
  rotate_left
  · intro w'
    go_simp
    with_reducible rfl
  rotate_left
  · simp only [Act.put, List.setIfInBounds_toArray, List.set_cons_zero, List.set_cons_succ, i64_w, i32_w]
    rfl
  refine done_ (by kernel_rfl) ?_
  try go_wp2
  refine bodyPost_ret (results_ct rfl _ _ gb103 26 #[.int .i64 t107, .slice Ao23 t108.length co23] (0, 0) _ rfl (by (with_reducible repeat (first | refine blk_drewN ?_ _ | refine blk_drew ?_ | refine blk_alloc ?_ _)); refine blk_put (cs := #[.int .i64 t107, .slice none 0 0]) ?_ 1 _ rfl; (with_reducible repeat (first | refine blk_drewN ?_ _ | refine blk_drew ?_ | refine blk_alloc ?_ _)); refine blk_put (cs := #[.int .i64 0, .slice none 0 0]) ?_ 0 _ rfl; (with_reducible repeat (first | refine blk_drewN ?_ _ | refine blk_drew ?_ | refine blk_alloc ?_ _)); exact BK103.out) Try.underlying26 rfl (by kernel_rfl)) rfl ?_
  exact ⟨_, by first | rfl | (simp [errW_none, errW_some] <;> rfl) | (simp [*, errW_none, errW_some] <;> rfl), by (with_reducible repeat (first | apply Kd.R_alloc | apply Kd.R_drewN | apply Kd.R_drew)); exact Kd.R_mono (Kd.R_far (p := ⟨gb103, 1, none⟩) (Kd.R_far (p := ⟨gb103, 0, none⟩) (Kd.R_types HO110.out BK103.out (by decide)) (fun _ hk => hk.2) (.int .i64 t107)) (fun _ hk => hk.2) (.slice Ao23 t108.length co23)) (fun _ hk => hk.1), by repeat (first | (with_reducible first | exact HB.out | apply below_alloc | apply pw_below_drewN | apply below_drew1 | refine below_set ?_ GE101.out | refine below_set ?_ GE102.out | refine below_set ?_ GE103.out | refine below_set ?_ GE112.out) | exact HB.out)⟩
end Go.Proofs.Ytjmkhdhffmlhiaa.PAll
end
section
namespace Go.Proofs.Ytjmkhdhffmlhiaa.PAll
set_option linter.unusedVariables false
open Go.RowKit Go.Proofs.YtjmkhdhffmlhiaaW.PrintWords Go.Proofs.YtjmkhdhffmlhiaaW.PrintMore
theorem Is.short {N : Nat} {p : Nat → Bool} {ws : List Int} (h : Is N p ws) (hN : N ≤ 4096) : ws.length ≤ 9223372036854775807 := by have := h.len; omega
theorem many2 {N : Nat} (hN : N ≤ 4096) {l : List S26} {all : Bool} {r : Int × List Int × Int} (hl : ∀ x ∈ l, x.f0 = (N : Int) ∧ MayP (N : Int) x.f1) (h : ManySays (N : Int) l all r) : ∃ ws, Is N (manyb all l) ws ∧ r = ((N : Int), ws, 0) := by
  rcases h with ⟨e, e1, e2, _⟩ | ⟨_, us, u3, rfl⟩
  · refine absurd (e2.eq (.inr (.inr ⟨rfl, fun x hx => ?_, fun x hx => (hl x hx).1, by omega, by omega⟩))) e1
    unfold MayS; rw [(hl x hx).1]; exact (hl x hx).2
  · exact ⟨us, by simpa using u3, rfl⟩
theorem union2 {N : Nat} (hN : N ≤ 4096) {p q : Nat → Bool} {la lb : List Int} (ha : Is N p la) (hb1 : Is N q lb) : ∃ ws, Is N (fun e => p e || q e) ws ∧ Ev (fun k => slopelaw3_union.f k (N : Int) (N : Int) la (N : Int) lb) ((N : Int), ws, true) := by
  obtain ⟨r, h1, h2⟩ := Union_eq (N : Int) [⟨(N : Int), la⟩, ⟨(N : Int), lb⟩] (by simp) (fun x hx => by
    simp only [List.mem_cons, List.not_mem_nil, or_false] at hx
    rcases hx with rfl | rfl
    · exact ⟨ha.wds, ha.short hN⟩
    · exact ⟨hb1.wds, hb1.short hN⟩)
  obtain ⟨ws, h3, rfl⟩ := many2 hN (fun x hx => by
    simp only [List.mem_cons, List.not_mem_nil, or_false] at hx
    rcases hx with rfl | rfl
    · exact ⟨rfl, ha.may hN⟩
    · exact ⟨rfl, hb1.may hN⟩) h1
  refine ⟨ws, h3.congr fun e he => ?_, ?_⟩
  · simp [manyb, ha.has, hb1.has, he]
  · exact Ev.congr (fun k => by unfold slopelaw3_union.f; rfl) (Ev.bind (f := fun k bt107 => ((slopelaw3_num.f bt107.2.2).bind fun t113 => (some (bt107.1, bt107.2.1, (t113 == 0))))) h2 (Ev.const fun k => rfl))
theorem inter2 {N : Nat} (hN : N ≤ 4096) {p q : Nat → Bool} {la lb : List Int} (ha : Is N p la) (hb1 : Is N q lb) : ∃ ws, Is N (fun e => p e && q e) ws ∧ Ev (fun k => slopelaw3_inter.f k (N : Int) (N : Int) la (N : Int) lb) ((N : Int), ws, true) := by
  obtain ⟨r, h1, h2⟩ := Inter_eq (N : Int) [⟨(N : Int), la⟩, ⟨(N : Int), lb⟩] (by simp) (fun x hx => by
    simp only [List.mem_cons, List.not_mem_nil, or_false] at hx
    rcases hx with rfl | rfl
    · exact ⟨ha.wds, ha.short hN⟩
    · exact ⟨hb1.wds, hb1.short hN⟩)
  obtain ⟨ws, h3, rfl⟩ := many2 hN (fun x hx => by
    simp only [List.mem_cons, List.not_mem_nil, or_false] at hx
    rcases hx with rfl | rfl
    · exact ⟨rfl, ha.may hN⟩
    · exact ⟨rfl, hb1.may hN⟩) h1
  refine ⟨ws, h3.congr fun e he => ?_, ?_⟩
  · simp [manyb, ha.has, hb1.has, he]
  · exact Ev.congr (fun k => by unfold slopelaw3_inter.f; rfl) (Ev.bind (f := fun k bt107 => ((slopelaw3_num.f bt107.2.2).bind fun t113 => (some (bt107.1, bt107.2.1, (t113 == 0))))) h2 (Ev.const fun k => rfl))
theorem union3 {N : Nat} (hN : N ≤ 4096) {p q r : Nat → Bool} {la lb lc : List Int} (ha : Is N p la) (hb1 : Is N q lb) (hc : Is N r lc) : ∃ ws, Is N (fun e => p e || q e || r e) ws ∧ Ev (fun k => bitset_Union.f k (N : Int) ([(⟨(N : Int), la⟩ : S26), (⟨(N : Int), lb⟩ : S26), (⟨(N : Int), lc⟩ : S26)] : List S26)) ((N : Int), ws, 0) := by
  obtain ⟨r, h1, h2⟩ := Union_eq (N : Int) [⟨(N : Int), la⟩, ⟨(N : Int), lb⟩, ⟨(N : Int), lc⟩] (by simp) (fun x hx => by
    simp only [List.mem_cons, List.not_mem_nil, or_false] at hx
    rcases hx with rfl | rfl | rfl
    · exact ⟨ha.wds, ha.short hN⟩
    · exact ⟨hb1.wds, hb1.short hN⟩
    · exact ⟨hc.wds, hc.short hN⟩)
  obtain ⟨ws, h3, rfl⟩ := many2 hN (fun x hx => by
    simp only [List.mem_cons, List.not_mem_nil, or_false] at hx
    rcases hx with rfl | rfl | rfl
    · exact ⟨rfl, ha.may hN⟩
    · exact ⟨rfl, hb1.may hN⟩
    · exact ⟨rfl, hc.may hN⟩) h1
  refine ⟨ws, h3.congr fun e he => ?_, h2⟩
  simp [manyb, ha.has, hb1.has, hc.has, he, Bool.or_assoc]
theorem two2 {N : Nat} (hN : N ≤ 4096) {f : Bool → Bool → Bool} {p q : Nat → Bool} {la lb : List Int} {r : Int × List Int × Int} (ha : Is N p la) (hb1 : Is N q lb) (h : TwoSays f (N : Int) la (N : Int) lb r) : ∃ ws, Is N (fun e => f (p e) (q e)) ws ∧ r = ((N : Int), ws, 0) := by
  rcases h with ⟨t1, _⟩ | ⟨_, _, ⟨t1, _⟩ | ⟨_, us, w1, rfl⟩⟩
  · exact absurd ⟨ha.may hN, hb1.may hN⟩ t1
  · exact absurd rfl t1
  · refine ⟨us, ?_, rfl⟩
    rw [Int.toNat_natCast] at w1
    refine w1.congr fun e he => ?_
    rw [ha.has, hb1.has]; simp [he]
theorem minus2 {N : Nat} (hN : N ≤ 4096) {p q : Nat → Bool} {la lb : List Int} (ha : Is N p la) (hb1 : Is N q lb) : ∃ ws, Is N (fun e => p e && !q e) ws ∧ Ev (fun k => bitset_Minus.f k (N : Int) la (N : Int) lb) ((N : Int), ws, 0) := by
  obtain ⟨r, h1, h2⟩ := Minus_eq (N : Int) la (N : Int) lb ha.wds hb1.wds (ha.short hN) (hb1.short hN)
  obtain ⟨ws, h3, rfl⟩ := two2 hN ha hb1 h1
  exact ⟨ws, h3, h2⟩
theorem differ2 {N : Nat} (hN : N ≤ 4096) {p q : Nat → Bool} {la lb : List Int} (ha : Is N p la) (hb1 : Is N q lb) : ∃ ws, Is N (fun e => p e != q e) ws ∧ Ev (fun k => bitset_Differ.f k (N : Int) la (N : Int) lb) ((N : Int), ws, 0) := by
  obtain ⟨r, h1, h2⟩ := Differ_eq (N : Int) la (N : Int) lb ha.wds hb1.wds (ha.short hN) (hb1.short hN)
  obtain ⟨ws, h3, rfl⟩ := two2 hN ha hb1 h1
  exact ⟨ws, h3, h2⟩
theorem none2 {N : Nat} (hN : N ≤ 4096) {f : Bool → Bool → Bool} (hf : f false false = false) {p q : Nat → Bool} {la lb : List Int} (ha : Is N p la) (hb1 : Is N q lb) (h : ∀ e, e < N → f (p e) (q e) = false) : nonep f (N : Int) la (N : Int) lb = true :=
  nonep_true.2 ⟨ha.may hN, hb1.may hN, rfl, fun d => by
    rw [ha.has, hb1.has]
    by_cases hd : d < N
    · simpa [hd] using h d hd
    · simpa [hd] using hf⟩
theorem equal2 {N : Nat} (hN : N ≤ 4096) {p q : Nat → Bool} {la lb : List Int} (ha : Is N p la) (hb1 : Is N q lb) (h : ∀ e, e < N → p e = q e) : Ev (fun k => bitset_Equal.f k (N : Int) la (N : Int) lb) true := by
  have h1 := Equal_eq (N : Int) la (N : Int) lb ha.wds hb1.wds (ha.short hN) (hb1.short hN)
  rw [none2 hN rfl ha hb1 (fun e he => by rw [h e he]; simp)] at h1
  exact h1
theorem subset2 {N : Nat} (hN : N ≤ 4096) {p q : Nat → Bool} {la lb : List Int} (ha : Is N p la) (hb1 : Is N q lb) (h : ∀ e, e < N → p e = true → q e = true) : Ev (fun k => bitset_Subset.f k (N : Int) la (N : Int) lb) true := by
  have h1 := Subset_eq (N : Int) la (N : Int) lb ha.wds hb1.wds (ha.short hN) (hb1.short hN)
  rw [none2 hN rfl ha hb1 (fun e he => by have := h e he; revert this; cases p e <;> cases q e <;> simp)] at h1
  exact h1
theorem disjoint2 {N : Nat} (hN : N ≤ 4096) {p q : Nat → Bool} {la lb : List Int} (ha : Is N p la) (hb1 : Is N q lb) (h : ∀ e, e < N → (p e && q e) = false) : Ev (fun k => bitset_Disjoint.f k (N : Int) la (N : Int) lb) true := by
  have h1 := Disjoint_eq (N : Int) la (N : Int) lb ha.wds hb1.wds (ha.short hN) (hb1.short hN)
  rw [none2 hN rfl ha hb1 h] at h1
  exact h1
theorem rest1 {N : Nat} (hN : N ≤ 4096) {p : Nat → Bool} {la : List Int} (ha : Is N p la) : ∃ ws, Is N (fun e => !p e) ws ∧ Ev (fun k => bitset_Rest.f k (N : Int) la) ((N : Int), ws, 0) := by
  obtain ⟨r, h1, h2⟩ := Rest_eq (N : Int) la ha.wds (ha.short hN)
  rcases h1 with ⟨t1, _⟩ | ⟨_, us, w1, rfl⟩
  · exact absurd (ha.may hN) t1
  · refine ⟨us, ?_, h2⟩
    rw [Int.toNat_natCast] at w1
    refine w1.congr fun e he => ?_
    rw [ha.has]; simp [he]
theorem count1 {N : Nat} (hN : N ≤ 4096) {p : Nat → Bool} {la : List Int} (ha : Is N p la) : Ev (fun k => bitset_Count.f k (N : Int) la) (((List.range N).countP p : Nat) : Int) := by
  have h := Count_eq ha.wds (ha.may hN)
  rw [ha.cnt] at h
  exact h
theorem Is.same {N : Nat} (hN : N ≤ 4096) {p q : Nat → Bool} {la lb : List Int} (ha : Is N p la) (hb1 : Is N q lb) (h : ∀ e, e < N → p e = q e) : Ev (fun k => slopelaw3_same.f k (N : Int) la (N : Int) lb) true := by
  rw [ha.eq hb1 h]
  exact same_ev (N : Int) lb (hb1.short hN)
theorem counts_add (p q : Nat → Bool) : ∀ l : List Nat, l.countP (fun e => p e || q e) + l.countP (fun e => p e && q e) = l.countP p + l.countP q
  | [] => rfl
  | a :: l => by
    have := counts_add p q l
    rw [List.countP_cons, List.countP_cons, List.countP_cons, List.countP_cons]
    cases p a <;> cases q a <;> simp <;> omega
theorem counts_rest (p : Nat → Bool) : ∀ l : List Nat, l.countP p + l.countP (fun e => !p e) = l.length
  | [] => rfl
  | a :: l => by
    have := counts_rest p l
    rw [List.countP_cons, List.countP_cons, List.length_cons]
    cases p a <;> simp <;> omega
end Go.Proofs.Ytjmkhdhffmlhiaa.PAll
end
section
namespace Go.Proofs.Ytjmkhdhffmlhiaa.PAll
set_option linter.unusedVariables false
open Go.RowKit Go.Proofs.YtjmkhdhffmlhiaaW.PrintWords Go.Proofs.YtjmkhdhffmlhiaaW.PrintLast Go.Proofs.YtjmkhdhffmlhiaaW.PrintMore
mutual
def slopelaw3_BitLattice.j0 : Nat → Int → Int → Int → Int → Bool → Int → List Int → Int → List Int → Int → List Int → Option (Bool)
  | 0, _, _, _, _, _, _, _, _, _, _, _ => none
  | k + 1, x0, x10, x12, x14, x76, x108000, x108001, x114000, x114001, x120000, x120001 => if x76 = true then ((slopelaw3_num.f x10).bind fun t120 => (some (t120 != 0))) else ((slopelaw3_num.f x10).bind fun t121 => (if t121 = 0 then ((slopelaw3_num.f x12).bind fun t122 => (if t122 = 0 then ((slopelaw3_num.f x14).bind fun t123 => (slopelaw3_BitLattice.j1 k x0 (t123 != 0) x108000 x108001 x114000 x114001 x120000 x120001)) else (slopelaw3_BitLattice.j1 k x0 true x108000 x108001 x114000 x114001 x120000 x120001))) else (slopelaw3_BitLattice.j1 k x0 true x108000 x108001 x114000 x114001 x120000 x120001)))
def slopelaw3_BitLattice.j1 : Nat → Int → Bool → Int → List Int → Int → List Int → Int → List Int → Option (Bool)
  | 0, _, _, _, _, _, _, _, _ => none
  | k + 1, x0, x92, x108000, x108001, x114000, x114001, x120000, x120001 => if x92 = true then (some true) else ((slopelaw3_union.f k x0 x108000 x108001 x114000 x114001).bind fun bt124 => ((slopelaw3_union.f k x0 x114000 x114001 x108000 x108001).bind fun bt130 => ((slopelaw3_union.f k x0 x114000 x114001 x120000 x120001).bind fun bt136 => ((slopelaw3_union.f k x0 bt124.1 bt124.2.1 x120000 x120001).bind fun bt142 => ((slopelaw3_union.f k x0 x108000 x108001 bt136.1 bt136.2.1).bind fun bt148 => ((bitset_Union.f k x0 (([(⟨x108000, x108001⟩ : S26), (⟨x114000, x114001⟩ : S26), (⟨x120000, x120001⟩ : S26)] : List (S26)))).bind fun bt157 => ((slopelaw3_inter.f k x0 x108000 x108001 x114000 x114001).bind fun bt163 => ((slopelaw3_inter.f k x0 x108000 x108001 x120000 x120001).bind fun bt169 => ((slopelaw3_inter.f k x0 x108000 x108001 bt136.1 bt136.2.1).bind fun bt175 => ((slopelaw3_union.f k x0 bt163.1 bt163.2.1 bt169.1 bt169.2.1).bind fun bt181 => (if bt124.2.2 = true then (if bt130.2.2 = true then (if bt136.2.2 = true then (if bt142.2.2 = true then (if bt148.2.2 = true then (if bt163.2.2 = true then (if bt169.2.2 = true then (if bt175.2.2 = true then (if bt181.2.2 = true then ((slopelaw3_num.f bt157.2.2).bind fun t187 => (slopelaw3_BitLattice.j2 k x0 (t187 != 0) x108000 x108001 x114000 x114001 bt124.1 bt124.2.1 bt130.1 bt130.2.1 bt142.1 bt142.2.1 bt148.1 bt148.2.1 bt157.1 bt157.2.1 bt163.1 bt163.2.1 bt175.1 bt175.2.1 bt181.1 bt181.2.1)) else (slopelaw3_BitLattice.j2 k x0 true x108000 x108001 x114000 x114001 bt124.1 bt124.2.1 bt130.1 bt130.2.1 bt142.1 bt142.2.1 bt148.1 bt148.2.1 bt157.1 bt157.2.1 bt163.1 bt163.2.1 bt175.1 bt175.2.1 bt181.1 bt181.2.1)) else (slopelaw3_BitLattice.j2 k x0 true x108000 x108001 x114000 x114001 bt124.1 bt124.2.1 bt130.1 bt130.2.1 bt142.1 bt142.2.1 bt148.1 bt148.2.1 bt157.1 bt157.2.1 bt163.1 bt163.2.1 bt175.1 bt175.2.1 bt181.1 bt181.2.1)) else (slopelaw3_BitLattice.j2 k x0 true x108000 x108001 x114000 x114001 bt124.1 bt124.2.1 bt130.1 bt130.2.1 bt142.1 bt142.2.1 bt148.1 bt148.2.1 bt157.1 bt157.2.1 bt163.1 bt163.2.1 bt175.1 bt175.2.1 bt181.1 bt181.2.1)) else (slopelaw3_BitLattice.j2 k x0 true x108000 x108001 x114000 x114001 bt124.1 bt124.2.1 bt130.1 bt130.2.1 bt142.1 bt142.2.1 bt148.1 bt148.2.1 bt157.1 bt157.2.1 bt163.1 bt163.2.1 bt175.1 bt175.2.1 bt181.1 bt181.2.1)) else (slopelaw3_BitLattice.j2 k x0 true x108000 x108001 x114000 x114001 bt124.1 bt124.2.1 bt130.1 bt130.2.1 bt142.1 bt142.2.1 bt148.1 bt148.2.1 bt157.1 bt157.2.1 bt163.1 bt163.2.1 bt175.1 bt175.2.1 bt181.1 bt181.2.1)) else (slopelaw3_BitLattice.j2 k x0 true x108000 x108001 x114000 x114001 bt124.1 bt124.2.1 bt130.1 bt130.2.1 bt142.1 bt142.2.1 bt148.1 bt148.2.1 bt157.1 bt157.2.1 bt163.1 bt163.2.1 bt175.1 bt175.2.1 bt181.1 bt181.2.1)) else (slopelaw3_BitLattice.j2 k x0 true x108000 x108001 x114000 x114001 bt124.1 bt124.2.1 bt130.1 bt130.2.1 bt142.1 bt142.2.1 bt148.1 bt148.2.1 bt157.1 bt157.2.1 bt163.1 bt163.2.1 bt175.1 bt175.2.1 bt181.1 bt181.2.1)) else (slopelaw3_BitLattice.j2 k x0 true x108000 x108001 x114000 x114001 bt124.1 bt124.2.1 bt130.1 bt130.2.1 bt142.1 bt142.2.1 bt148.1 bt148.2.1 bt157.1 bt157.2.1 bt163.1 bt163.2.1 bt175.1 bt175.2.1 bt181.1 bt181.2.1)) else (slopelaw3_BitLattice.j2 k x0 true x108000 x108001 x114000 x114001 bt124.1 bt124.2.1 bt130.1 bt130.2.1 bt142.1 bt142.2.1 bt148.1 bt148.2.1 bt157.1 bt157.2.1 bt163.1 bt163.2.1 bt175.1 bt175.2.1 bt181.1 bt181.2.1))))))))))))
def slopelaw3_BitLattice.j2 : Nat → Int → Bool → Int → List Int → Int → List Int → Int → List Int → Int → List Int → Int → List Int → Int → List Int → Int → List Int → Int → List Int → Int → List Int → Int → List Int → Option (Bool)
  | 0, _, _, _, _, _, _, _, _, _, _, _, _, _, _, _, _, _, _, _, _, _, _ => none
  | k + 1, x0, x203, x108000, x108001, x114000, x114001, x130000, x130001, x136000, x136001, x148000, x148001, x154000, x154001, x163000, x163001, x169000, x169001, x181000, x181001, x187000, x187001 => if x203 = true then (some false) else ((slopelaw3_same.f k x130000 x130001 x136000 x136001).bind fun t188 => (if t188 = true then ((slopelaw3_same.f k x148000 x148001 x154000 x154001).bind fun t189 => (if t189 = true then ((slopelaw3_same.f k x148000 x148001 x163000 x163001).bind fun t190 => (if t190 = true then ((slopelaw3_same.f k x181000 x181001 x187000 x187001).bind fun t191 => (if t191 = true then ((bitset_Equal.f k x181000 x181001 x187000 x187001).bind fun t192 => (if t192 = true then ((bitset_Subset.f k x169000 x169001 x108000 x108001).bind fun t193 => (if t193 = true then ((bitset_Subset.f k x108000 x108001 x130000 x130001).bind fun t194 => (slopelaw3_BitLattice.j3 k x0 (!t194) x108000 x108001 x114000 x114001 x130000 x130001 x169000 x169001)) else (slopelaw3_BitLattice.j3 k x0 true x108000 x108001 x114000 x114001 x130000 x130001 x169000 x169001))) else (slopelaw3_BitLattice.j3 k x0 true x108000 x108001 x114000 x114001 x130000 x130001 x169000 x169001))) else (slopelaw3_BitLattice.j3 k x0 true x108000 x108001 x114000 x114001 x130000 x130001 x169000 x169001))) else (slopelaw3_BitLattice.j3 k x0 true x108000 x108001 x114000 x114001 x130000 x130001 x169000 x169001))) else (slopelaw3_BitLattice.j3 k x0 true x108000 x108001 x114000 x114001 x130000 x130001 x169000 x169001))) else (slopelaw3_BitLattice.j3 k x0 true x108000 x108001 x114000 x114001 x130000 x130001 x169000 x169001)))
def slopelaw3_BitLattice.j3 : Nat → Int → Bool → Int → List Int → Int → List Int → Int → List Int → Int → List Int → Option (Bool)
  | 0, _, _, _, _, _, _, _, _, _, _ => none
  | k + 1, x0, x243, x108000, x108001, x114000, x114001, x130000, x130001, x169000, x169001 => if x243 = true then (some false) else ((bitset_Rest.f k x108000 x108001).bind fun bt195 => ((bitset_Rest.f k x114000 x114001).bind fun bt201 => ((bitset_Rest.f k x130000 x130001).bind fun bt207 => ((slopelaw3_inter.f k x0 bt195.1 bt195.2.1 bt201.1 bt201.2.1).bind fun bt213 => ((bitset_Minus.f k x108000 x108001 x114000 x114001).bind fun bt219 => ((slopelaw3_inter.f k x0 x108000 x108001 bt201.1 bt201.2.1).bind fun bt225 => ((bitset_Differ.f k x108000 x108001 x114000 x114001).bind fun bt231 => ((bitset_Minus.f k x130000 x130001 x169000 x169001).bind fun bt237 => ((slopelaw3_num.f bt195.2.2).bind fun t243 => ((slopelaw3_num.f bt201.2.2).bind fun t244 => ((slopelaw3_num.f bt207.2.2).bind fun t245 => ((slopelaw3_num.f bt219.2.2).bind fun t246 => ((slopelaw3_num.f bt231.2.2).bind fun t247 => ((slopelaw3_num.f bt237.2.2).bind fun t248 => (if (wrap64 ((wrap64 ((wrap64 ((wrap64 ((wrap64 (t243 + t244)) + t245)) + t246)) + t247)) + t248)) = 0 then (if bt213.2.2 = true then (slopelaw3_BitLattice.j4 k x0 (!bt225.2.2) x108000 x108001 x114000 x114001 x130000 x130001 x169000 x169001 bt195.1 bt195.2.1 bt207.1 bt207.2.1 bt213.1 bt213.2.1 bt219.1 bt219.2.1 bt225.1 bt225.2.1 bt231.1 bt231.2.1 bt237.1 bt237.2.1) else (slopelaw3_BitLattice.j4 k x0 true x108000 x108001 x114000 x114001 x130000 x130001 x169000 x169001 bt195.1 bt195.2.1 bt207.1 bt207.2.1 bt213.1 bt213.2.1 bt219.1 bt219.2.1 bt225.1 bt225.2.1 bt231.1 bt231.2.1 bt237.1 bt237.2.1)) else (slopelaw3_BitLattice.j4 k x0 true x108000 x108001 x114000 x114001 x130000 x130001 x169000 x169001 bt195.1 bt195.2.1 bt207.1 bt207.2.1 bt213.1 bt213.2.1 bt219.1 bt219.2.1 bt225.1 bt225.2.1 bt231.1 bt231.2.1 bt237.1 bt237.2.1))))))))))))))))
def slopelaw3_BitLattice.j4 : Nat → Int → Bool → Int → List Int → Int → List Int → Int → List Int → Int → List Int → Int → List Int → Int → List Int → Int → List Int → Int → List Int → Int → List Int → Int → List Int → Int → List Int → Option (Bool)
  | 0, _, _, _, _, _, _, _, _, _, _, _, _, _, _, _, _, _, _, _, _, _, _, _, _ => none
  | k + 1, x0, x316, x108000, x108001, x114000, x114001, x130000, x130001, x169000, x169001, x201000, x201001, x213000, x213001, x219000, x219001, x225000, x225001, x231000, x231001, x237000, x237001, x243000, x243001 => if x316 = true then (some false) else ((slopelaw3_same.f k x213000 x213001 x219000 x219001).bind fun t249 => (if t249 = true then ((slopelaw3_same.f k x225000 x225001 x231000 x231001).bind fun t250 => (if t250 = true then ((slopelaw3_same.f k x237000 x237001 x243000 x243001).bind fun t251 => (if t251 = true then ((bitset_Disjoint.f k x108000 x108001 x201000 x201001).bind fun t252 => (if t252 = true then ((bitset_Disjoint.f k x225000 x225001 x114000 x114001).bind fun t253 => (slopelaw3_BitLattice.j5 k x0 (!t253) x108000 x108001 x114000 x114001 x130000 x130001 x169000 x169001 x201000 x201001)) else (slopelaw3_BitLattice.j5 k x0 true x108000 x108001 x114000 x114001 x130000 x130001 x169000 x169001 x201000 x201001))) else (slopelaw3_BitLattice.j5 k x0 true x108000 x108001 x114000 x114001 x130000 x130001 x169000 x169001 x201000 x201001))) else (slopelaw3_BitLattice.j5 k x0 true x108000 x108001 x114000 x114001 x130000 x130001 x169000 x169001 x201000 x201001))) else (slopelaw3_BitLattice.j5 k x0 true x108000 x108001 x114000 x114001 x130000 x130001 x169000 x169001 x201000 x201001)))
def slopelaw3_BitLattice.j5 : Nat → Int → Bool → Int → List Int → Int → List Int → Int → List Int → Int → List Int → Int → List Int → Option (Bool)
  | 0, _, _, _, _, _, _, _, _, _, _, _, _ => none
  | k + 1, x0, x344, x108000, x108001, x114000, x114001, x130000, x130001, x169000, x169001, x201000, x201001 => if x344 = true then (some false) else ((bitset_Count.f k x130000 x130001).bind fun t254 => ((bitset_Count.f k x169000 x169001).bind fun t255 => ((bitset_Count.f k x108000 x108001).bind fun t256 => ((bitset_Count.f k x114000 x114001).bind fun t257 => (if (wrap64 (t254 + t255)) = (wrap64 (t256 + t257)) then ((bitset_Count.f k x108000 x108001).bind fun t258 => ((bitset_Count.f k x201000 x201001).bind fun t259 => (some ((wrap64 (t258 + t259)) == x0)))) else (some false))))))
end
def slopelaw3_BitLattice.f (k : Nat) (a0 : Int) (l1 : List Int) (l2 : List Int) (l3 : List Int) : Option (Bool) := (slopelaw3_alive.f k).bind fun t101 => (if t101 = true then ((bitset_Make.f k a0 l1).bind fun bt102 => ((bitset_Make.f k a0 l2).bind fun bt108 => ((bitset_Make.f k a0 l3).bind fun bt114 => (if a0 < 0 then (slopelaw3_BitLattice.j0 k a0 bt102.2.2 bt108.2.2 bt114.2.2 true bt102.1 bt102.2.1 bt108.1 bt108.2.1 bt114.1 bt114.2.1) else (slopelaw3_BitLattice.j0 k a0 bt102.2.2 bt108.2.2 bt114.2.2 (decide (a0 > 4096)) bt102.1 bt102.2.1 bt108.1 bt108.2.1 bt114.1 bt114.2.1))))) else (some false))
end Go.Proofs.Ytjmkhdhffmlhiaa.PAll
end
section
namespace Go.Proofs.Ytjmkhdhffmlhiaa.PAll
set_option linter.unusedVariables false
open Go.RowKit Go.Proofs.YtjmkhdhffmlhiaaW.PrintWords Go.Proofs.YtjmkhdhffmlhiaaW.PrintMore
end Go.Proofs.Ytjmkhdhffmlhiaa.PAll
end
section
namespace Go.Proofs.Ytjmkhdhffmlhiaa.PAll
open Go.RowKit Go.Proofs.YtjmkhdhffmlhiaaW.PrintWords Go.Proofs.YtjmkhdhffmlhiaaW.PrintLast Go.Proofs.YtjmkhdhffmlhiaaW.PrintMore
class Pl (W W' : World) : Prop where
  blk : ∀ k, k < W.heap.size → W'.heap[k]? = W.heap[k]?
  bel : ∀ w : World, Below w.heap.size w W → Below w.heap.size w W'
instance plSame (W : World) : Pl W W := ⟨fun _ _ => rfl, fun _ h => h⟩
instance plDrew (W W' : World) [h : Pl W W'] : Pl W W'.drew := ⟨fun k hk => h.blk k hk, fun w hb => below_drew1 (h.bel w hb)⟩
instance plDrewN (W W' : World) (n : Nat) [h : Pl W W'] : Pl W (W'.drewN n) := ⟨fun k hk => h.blk k hk, fun w hb => pw_below_drewN (h.bel w hb) n⟩
instance plAlloc (W W' : World) (o : Obj) [h : Pl W W'] : Pl W (W'.alloc o) := ⟨fun k hk => by
  have h1 := h.blk k hk
  have h2 : k < W'.heap.size := by
    have h3 : W.heap[k]? = some W.heap[k] := Array.getElem?_eq_getElem hk
    rw [h3] at h1
    exact blk_lt h1
  exact ((below_alloc (Below.refl W'.heap.size W') o).block k h2).trans h1, fun w hb => below_alloc (h.bel w hb) o⟩
class St (g : Nat) (W W' : World) : Prop where
  blk : ∀ k, k < W.heap.size → k ≠ g → W'.heap[k]? = W.heap[k]?
  bel : ∀ w : World, w.heap.size ≤ g → Below w.heap.size w W → Below w.heap.size w W'
  lt : W.heap.size ≤ W'.heap.size
instance stSame (g : Nat) (W : World) : St g W W := ⟨fun _ _ _ => rfl, fun _ _ h => h, Nat.le_refl _⟩
instance stDrew (g : Nat) (W W' : World) [h : St g W W'] : St g W W'.drew := ⟨fun k hk hg => h.blk k hk hg, fun w hw hb => below_drew1 (h.bel w hw hb), h.lt⟩
instance stDrewN (g : Nat) (W W' : World) (n : Nat) [h : St g W W'] : St g W (W'.drewN n) := ⟨fun k hk hg => h.blk k hk hg, fun w hw hb => pw_below_drewN (h.bel w hw hb) n, h.lt⟩
instance stAlloc (g : Nat) (W W' : World) (o : Obj) [h : St g W W'] : St g W (W'.alloc o) := ⟨fun k hk hg => ((below_alloc (Below.refl W'.heap.size W') o).block k (Nat.lt_of_lt_of_le hk h.lt)).trans (h.blk k hk hg), fun w hw hb => below_alloc (h.bel w hw hb) o, Nat.le_trans h.lt (below_alloc (Below.refl W'.heap.size W') o).size⟩
instance stPut (g j : Nat) (v : Value) (W W' : World) [h : St g W W'] : St g W (W'.setCell ⟨g, j, none⟩ v) := ⟨fun k hk hg => (Below.heap_setCell W' ⟨g, j, none⟩ v k hg).trans (h.blk k hk hg), fun w hw hb => below_set (h.bel w hw hb) hw, by simpa [World.setCell] using h.lt⟩
variable {W W' W1 : World} {k g b : Nat} {o : Obj} {α : Type} {d : Kd α} {e : TypeId} {ok : Nat → Prop} {v : Value} {xs : List α} {t : TypeId} {cells : Array Value}
theorem pb {w : World} (h : Below w.heap.size w W) [p : Pl W W'] : Below w.heap.size w W' := p.bel w h
theorem sr (h : d.R e W b ok v xs) (hb : W.heap[g]? = some (.cells cells t (0, 0))) (ht : ∀ q, q ∈ e :: d.E → q ≠ t) [p : St g W W'] : d.R e W' b ok v xs :=
  Kd.R_mono (Kd.R_move (Kd.R_bound (Kd.R_types h hb ht)) (fun k hk => p.blk k hk.2.2.1 hk.1.2)) (fun _ hk => hk.1.1)
theorem wr (hw : W1 = W') (h : d.R e W b ok v xs) (hb : W.heap[g]? = some (.cells cells t (0, 0))) (ht : ∀ q, q ∈ e :: d.E → q ≠ t) [p : St g W W'] : d.R e W1 b ok v xs := hw ▸ sr h hb ht
theorem gs {w : World} (hg : g = W.heap.size) (h : Below w.heap.size w W) : w.heap.size ≤ g := by rw [hg]; exact below_size h
end Go.Proofs.Ytjmkhdhffmlhiaa.PAll
end
section
namespace Go.Proofs.Ytjmkhdhffmlhiaa.PAll
set_option linter.unusedVariables false
set_option linter.unusedSimpArgs false
open Go.RowKit Go.Proofs.YtjmkhdhffmlhiaaW.PrintWords Go.Proofs.YtjmkhdhffmlhiaaW.PrintLast Go.Proofs.YtjmkhdhffmlhiaaW.PrintMore
attribute [local go_sem] Oper.semAt_some
def Has (W : World) (b : Nat) (n : Int) (ws : List Int) : Prop := ∃ A c, W.heap[b]? = some (.cells #[.int .i64 n, .slice A ws.length c] 26 (0, 0)) ∧ ws.length ≤ c ∧ Kd.C (Kd.int .u64) W A ws.length ws
theorem Has.below {W W' : World} {b : Nat} {n : Int} {ws : List Int} (h : Has W b n ws) (hb : Below W.heap.size W W') : Has W' b n ws := by
  obtain ⟨A, c, h1, h2, h3⟩ := h
  exact ⟨A, c, blk_below h1 hb, h2, Kd.C_below h3 hb⟩
theorem Has.alloc {W : World} {b : Nat} {n : Int} {ws : List Int} (h : Has W b n ws) (o : Obj) : Has (W.alloc o) b n ws := h.below (below_alloc (Below.refl _ _) o)
theorem Has.new {W : World} {base : Nat} {ok : Nat → Prop} {A : Option Addr} {c : Nat} {n : Int} {ws : List Int} (h : Kd.R (Kd.int .u64) 82 W base ok (.slice A ws.length c) ws) : Has (W.alloc (.cells #[.int .i64 n, .slice A ws.length c] 26 (0, 0))) W.heap.size n ws :=
  ⟨A, c, blk_new _ _, (Kd.R_reads' h).2.1, Kd.C_alloc (Kd.R_reads' h).2.2 _⟩
theorem Has.three {W : World} {n : Int} {a b c : List Int} {A1 A2 A3 : Option Addr} {c1 c2 c3 : Nat} (l1 : a.length ≤ c1) (h1 : Kd.C (Kd.int .u64) W A1 a.length a) (l2 : b.length ≤ c2) (h2 : Kd.C (Kd.int .u64) W A2 b.length b) (l3 : c.length ≤ c3) (h3 : Kd.C (Kd.int .u64) W A3 c.length c) :
    Kd.C k26 (W.alloc (.cells #[.int .i64 n, .slice A1 a.length c1, .int .i64 n, .slice A2 b.length c2, .int .i64 n, .slice A3 c.length c3] 26 (0, 0))) (some ⟨W.heap.size, 0, none⟩) 3 [(⟨n, a⟩ : S26), (⟨n, b⟩ : S26), (⟨n, c⟩ : S26)] := by
  have K := blk_new W (.cells #[.int .i64 n, .slice A1 a.length c1, .int .i64 n, .slice A2 b.length c2, .int .i64 n, .slice A3 c.length c3] 26 (0, 0))
  have hcell : ∀ i u, (#[Value.int .i64 n, .slice A1 a.length c1, .int .i64 n, .slice A2 b.length c2, .int .i64 n, .slice A3 c.length c3] : Array Value)[i]? = some u → (W.alloc (.cells #[.int .i64 n, .slice A1 a.length c1, .int .i64 n, .slice A2 b.length c2, .int .i64 n, .slice A3 c.length c3] 26 (0, 0))).cell? ((⟨W.heap.size, 0, none⟩ : Addr).add i) = some u := by
    intro i u hu
    rw [add_plain]
    exact (blk_cell K i).trans hu
  refine ⟨rfl, by decide, fun _ => ⟨_, rfl, fun j p hp => ?_⟩⟩
  match j, hp with
  | 0, hp =>
    obtain rfl := Option.some.inj hp
    exact ⟨[.int .i64 n, .slice A1 a.length c1], rfl, k26_mk _ ⟨n, a⟩ l1 (Kd.C_alloc h1 _), fun i u hu => hcell _ _ (by match i, hu with | 0, hu => exact hu | 1, hu => exact hu)⟩
  | 1, hp =>
    obtain rfl := Option.some.inj hp
    exact ⟨[.int .i64 n, .slice A2 b.length c2], rfl, k26_mk _ ⟨n, b⟩ l2 (Kd.C_alloc h2 _), fun i u hu => hcell _ _ (by match i, hu with | 0, hu => exact hu | 1, hu => exact hu)⟩
  | 2, hp =>
    obtain rfl := Option.some.inj hp
    exact ⟨[.int .i64 n, .slice A3 c.length c3], rfl, k26_mk _ ⟨n, c⟩ l3 (Kd.C_alloc h3 _), fun i u hu => hcell _ _ (by match i, hu with | 0, hu => exact hu | 1, hu => exact hu)⟩
set_option maxHeartbeats 8000000 in
set_option maxRecDepth 100000 in
theorem BitLattice_walk (k N : Nat) (hN : N ≤ 4096) (Ax : Option Addr) (cx : Nat) (x : List Int) (Ay : Option Addr) (cy : Nat) (y : List Int) (Az : Option Addr) (cz : Nat) (z : List Int) (a b c ab ba bc lf rg al ib ic ov sm ra rb rab bo mi mb di du : List Int) (q_ab q_ib q_a q_b q_ra : Nat) (e_1 : q_ab + q_ib = q_a + q_b) (e_2 : q_a + q_ra = N) (e_3 : q_b ≤ N) (w : World) (hx : Kd.C (Kd.int .i64) w Ax x.length x) (hc_x : x.length ≤ cx) (hy : Kd.C (Kd.int .i64) w Ay y.length y) (hc_y : y.length ≤ cy) (hz : Kd.C (Kd.int .i64) w Az z.length z) (hc_z : z.length ≤ cz) (ha : slopelaw3_alive.f k = some true)
    (h_a : bitset_Make.f k (N : Int) x = some ((N : Int), a, 0)) (h_b : bitset_Make.f k (N : Int) y = some ((N : Int), b, 0)) (h_c : bitset_Make.f k (N : Int) z = some ((N : Int), c, 0)) (h_ab : slopelaw3_union.f k (N : Int) (N : Int) a (N : Int) b = some ((N : Int), ab, true)) (h_ba : slopelaw3_union.f k (N : Int) (N : Int) b (N : Int) a = some ((N : Int), ba, true)) (h_bc : slopelaw3_union.f k (N : Int) (N : Int) b (N : Int) c = some ((N : Int), bc, true)) (h_lf : slopelaw3_union.f k (N : Int) (N : Int) ab (N : Int) c = some ((N : Int), lf, true)) (h_rg : slopelaw3_union.f k (N : Int) (N : Int) a (N : Int) bc = some ((N : Int), rg, true)) (h_al : bitset_Union.f k (N : Int) ([(⟨(N : Int), a⟩ : S26), (⟨(N : Int), b⟩ : S26), (⟨(N : Int), c⟩ : S26)] : List S26) = some ((N : Int), al, 0)) (h_ib : slopelaw3_inter.f k (N : Int) (N : Int) a (N : Int) b = some ((N : Int), ib, true)) (h_ic : slopelaw3_inter.f k (N : Int) (N : Int) a (N : Int) c = some ((N : Int), ic, true)) (h_ov : slopelaw3_inter.f k (N : Int) (N : Int) a (N : Int) bc = some ((N : Int), ov, true)) (h_sm : slopelaw3_union.f k (N : Int) (N : Int) ib (N : Int) ic = some ((N : Int), sm, true)) (t_1 : slopelaw3_same.f k (N : Int) ab (N : Int) ba = some true) (t_2 : slopelaw3_same.f k (N : Int) lf (N : Int) rg = some true) (t_3 : slopelaw3_same.f k (N : Int) lf (N : Int) al = some true) (t_4 : slopelaw3_same.f k (N : Int) ov (N : Int) sm = some true) (t_5 : bitset_Equal.f k (N : Int) ov (N : Int) sm = some true) (t_6 : bitset_Subset.f k (N : Int) ib (N : Int) a = some true) (t_7 : bitset_Subset.f k (N : Int) a (N : Int) ab = some true) (h_ra : bitset_Rest.f k (N : Int) a = some ((N : Int), ra, 0)) (h_rb : bitset_Rest.f k (N : Int) b = some ((N : Int), rb, 0)) (h_rab : bitset_Rest.f k (N : Int) ab = some ((N : Int), rab, 0)) (h_bo : slopelaw3_inter.f k (N : Int) (N : Int) ra (N : Int) rb = some ((N : Int), bo, true)) (h_mi : bitset_Minus.f k (N : Int) a (N : Int) b = some ((N : Int), mi, 0)) (h_mb : slopelaw3_inter.f k (N : Int) (N : Int) a (N : Int) rb = some ((N : Int), mb, true)) (h_di : bitset_Differ.f k (N : Int) a (N : Int) b = some ((N : Int), di, 0)) (h_du : bitset_Minus.f k (N : Int) ab (N : Int) ib = some ((N : Int), du, 0)) (t_8 : slopelaw3_same.f k (N : Int) rab (N : Int) bo = some true) (t_9 : slopelaw3_same.f k (N : Int) mi (N : Int) mb = some true) (t_10 : slopelaw3_same.f k (N : Int) di (N : Int) du = some true) (t_11 : bitset_Disjoint.f k (N : Int) a (N : Int) ra = some true) (t_12 : bitset_Disjoint.f k (N : Int) mi (N : Int) b = some true) (n_ab : bitset_Count.f k (N : Int) ab = some (q_ab : Int)) (n_ib : bitset_Count.f k (N : Int) ib = some (q_ib : Int)) (n_a : bitset_Count.f k (N : Int) a = some (q_a : Int)) (n_b : bitset_Count.f k (N : Int) b = some (q_b : Int)) (n_ra : bitset_Count.f k (N : Int) ra = some (q_ra : Int)) :
    Calls Try.prog 12 #[.int .i64 N, .slice Ax x.length cx, .slice Ay y.length cy, .slice Az z.length cz] w fun e w' => e = .returned (.bool true) ∧ Below w.heap.size w w' := by
  have hu24 := Try.underlying26
  have HX_x := Aside0.mk hx
  have HX_y := Aside0.mk hy
  have HX_z := Aside0.mk hz
  clear hx hy hz
  have Q_ := Aside0.mk ha; clear ha; have ha := Q_; clear Q_
  have Q_ := Aside0.mk h_a; clear h_a; have h_a := Q_; clear Q_
  have Q_ := Aside0.mk h_b; clear h_b; have h_b := Q_; clear Q_
  have Q_ := Aside0.mk h_c; clear h_c; have h_c := Q_; clear Q_
  have Q_ := Aside0.mk h_ab; clear h_ab; have h_ab := Q_; clear Q_
  have Q_ := Aside0.mk h_ba; clear h_ba; have h_ba := Q_; clear Q_
  have Q_ := Aside0.mk h_bc; clear h_bc; have h_bc := Q_; clear Q_
  have Q_ := Aside0.mk h_lf; clear h_lf; have h_lf := Q_; clear Q_
  have Q_ := Aside0.mk h_rg; clear h_rg; have h_rg := Q_; clear Q_
  have Q_ := Aside0.mk h_al; clear h_al; have h_al := Q_; clear Q_
  have Q_ := Aside0.mk h_ib; clear h_ib; have h_ib := Q_; clear Q_
  have Q_ := Aside0.mk h_ic; clear h_ic; have h_ic := Q_; clear Q_
  have Q_ := Aside0.mk h_ov; clear h_ov; have h_ov := Q_; clear Q_
  have Q_ := Aside0.mk h_sm; clear h_sm; have h_sm := Q_; clear Q_
  have Q_ := Aside0.mk t_1; clear t_1; have t_1 := Q_; clear Q_
  have Q_ := Aside0.mk t_2; clear t_2; have t_2 := Q_; clear Q_
  have Q_ := Aside0.mk t_3; clear t_3; have t_3 := Q_; clear Q_
  have Q_ := Aside0.mk t_4; clear t_4; have t_4 := Q_; clear Q_
  have Q_ := Aside0.mk t_5; clear t_5; have t_5 := Q_; clear Q_
  have Q_ := Aside0.mk t_6; clear t_6; have t_6 := Q_; clear Q_
  have Q_ := Aside0.mk t_7; clear t_7; have t_7 := Q_; clear Q_
  have Q_ := Aside0.mk h_ra; clear h_ra; have h_ra := Q_; clear Q_
  have Q_ := Aside0.mk h_rb; clear h_rb; have h_rb := Q_; clear Q_
  have Q_ := Aside0.mk h_rab; clear h_rab; have h_rab := Q_; clear Q_
  have Q_ := Aside0.mk h_bo; clear h_bo; have h_bo := Q_; clear Q_
  have Q_ := Aside0.mk h_mi; clear h_mi; have h_mi := Q_; clear Q_
  have Q_ := Aside0.mk h_mb; clear h_mb; have h_mb := Q_; clear Q_
  have Q_ := Aside0.mk h_di; clear h_di; have h_di := Q_; clear Q_
  have Q_ := Aside0.mk h_du; clear h_du; have h_du := Q_; clear Q_
  have Q_ := Aside0.mk t_8; clear t_8; have t_8 := Q_; clear Q_
  have Q_ := Aside0.mk t_9; clear t_9; have t_9 := Q_; clear Q_
  have Q_ := Aside0.mk t_10; clear t_10; have t_10 := Q_; clear Q_
  have Q_ := Aside0.mk t_11; clear t_11; have t_11 := Q_; clear Q_
  have Q_ := Aside0.mk t_12; clear t_12; have t_12 := Q_; clear Q_
  have Q_ := Aside0.mk n_ab; clear n_ab; have n_ab := Q_; clear Q_
  have Q_ := Aside0.mk n_ib; clear n_ib; have n_ib := Q_; clear Q_
  have Q_ := Aside0.mk n_a; clear n_a; have n_a := Q_; clear Q_
  have Q_ := Aside0.mk n_b; clear n_b; have n_b := Q_; clear Q_
  have Q_ := Aside0.mk n_ra; clear n_ra; have n_ra := Q_; clear Q_
  have hn0 : ¬ ((N : Int) < 0) := by omega
  have hn1 : ¬ ((4096 : Int) < (N : Int)) := by omega
  have HB := Aside0.mk (Below.refl w.heap.size w)
  refine (callsIn_wide (n := 6)).1 ?_
  refine callsIn_of_wp Try.func12 rfl trivial ?_ rfl
  simp only [Try.ntmps12, List.size_toArray, List.length_cons, List.length_nil, Nat.reduceAdd, Nat.reduceSub, Array.replicate_succ, Array.replicate_zero, List.push_toArray, List.append_toArray, List.nil_append, List.cons_append]
  gi_wp2_with fail
  refine ⟨trivial, ?_⟩; gi_at_call 37
  refine (callsIn_wide.2 (slopelaw3_alive.calls k true _ ha.out)).mono ?_
  rintro e w1 ⟨rfl, hb⟩
  have mB := Aside0.mk (below_step HB.out hb)
  clear HB hb
  have HB := mB
  clear mB
  gi_wp2_with fail
  refine ⟨trivial, ?_⟩; gi_at_call 14
  refine (callsIn_wide.2 (bitset_Make.calls k (N : Int) _ _ x _ _ _ _ (Kd.C_below HX_x.out HB.out) hc_x h_a.out)).mono ?_
  rintro e w2 ⟨v, rfl, ho, hb⟩
  clear h_a
  obtain ⟨A_a, c_a, rfl⟩ := Kd.R_slice ho
  have m_a := Aside0.mk (Has.new (n := (N : Int)) ho)
  have mB := Aside0.mk (below_alloc (below_step HB.out hb) (.cells #[.int .i64 (N : Int), .slice A_a a.length c_a] 26 (0, 0)))
  clear HB hb ho
  have HS_a := m_a; have HB := mB
  clear mB m_a
  gi_wp2_with fail
  refine ⟨trivial, ?_⟩; gi_at_call 14
  refine (callsIn_wide.2 (bitset_Make.calls k (N : Int) _ _ y _ _ _ _ (Kd.C_below HX_y.out HB.out) hc_y h_b.out)).mono ?_
  rintro e w3 ⟨v, rfl, ho, hb⟩
  clear h_b
  obtain ⟨A_b, c_b, rfl⟩ := Kd.R_slice ho
  have m_a := Aside0.mk ((HS_a.out.below hb).alloc (.cells #[.int .i64 (N : Int), .slice A_b b.length c_b] 26 (0, 0)))
  have m_b := Aside0.mk (Has.new (n := (N : Int)) ho)
  have mB := Aside0.mk (below_alloc (below_step HB.out hb) (.cells #[.int .i64 (N : Int), .slice A_b b.length c_b] 26 (0, 0)))
  clear HB hb ho HS_a
  have HS_a := m_a; have HS_b := m_b; have HB := mB
  clear mB m_a m_b
  gi_wp2_with fail
  refine ⟨trivial, ?_⟩; gi_at_call 14
  refine (callsIn_wide.2 (bitset_Make.calls k (N : Int) _ _ z _ _ _ _ (Kd.C_below HX_z.out HB.out) hc_z h_c.out)).mono ?_
  rintro e w4 ⟨v, rfl, ho, hb⟩
  clear h_c
  obtain ⟨A_c, c_c, rfl⟩ := Kd.R_slice ho
  have m_a := Aside0.mk ((HS_a.out.below hb).alloc (.cells #[.int .i64 (N : Int), .slice A_c c.length c_c] 26 (0, 0)))
  have m_b := Aside0.mk ((HS_b.out.below hb).alloc (.cells #[.int .i64 (N : Int), .slice A_c c.length c_c] 26 (0, 0)))
  have m_c := Aside0.mk (Has.new (n := (N : Int)) ho)
  have mB := Aside0.mk (below_alloc (below_step HB.out hb) (.cells #[.int .i64 (N : Int), .slice A_c c.length c_c] 26 (0, 0)))
  clear HB hb ho HS_a HS_b
  have HS_a := m_a; have HS_b := m_b; have HS_c := m_c; have HB := mB
  clear mB m_a m_b m_c
  gi_wp2_with fail
  refine ⟨trivial, ?_⟩; gi_at_call 19
  refine (callsIn_wide.2 (slopelaw3_num.calls 0 0 _ rfl)).mono ?_
  rintro e w5 ⟨rfl, hd⟩
  have hb := hd.below
  clear hd
  have m_a := Aside0.mk (HS_a.out.below hb)
  have m_b := Aside0.mk (HS_b.out.below hb)
  have m_c := Aside0.mk (HS_c.out.below hb)
  have mB := Aside0.mk (below_step HB.out hb)
  clear HB hb HS_a HS_b HS_c
  have HS_a := m_a; have HS_b := m_b; have HS_c := m_c; have HB := mB
  clear mB m_a m_b m_c
  gi_wp2_with fail
  refine ⟨trivial, ?_⟩; gi_at_call 19
  refine (callsIn_wide.2 (slopelaw3_num.calls 0 0 _ rfl)).mono ?_
  rintro e w6 ⟨rfl, hd⟩
  have hb := hd.below
  clear hd
  have m_a := Aside0.mk (HS_a.out.below hb)
  have m_b := Aside0.mk (HS_b.out.below hb)
  have m_c := Aside0.mk (HS_c.out.below hb)
  have mB := Aside0.mk (below_step HB.out hb)
  clear HB hb HS_a HS_b HS_c
  have HS_a := m_a; have HS_b := m_b; have HS_c := m_c; have HB := mB
  clear mB m_a m_b m_c
  gi_wp2_with fail
  refine ⟨trivial, ?_⟩; gi_at_call 19
  refine (callsIn_wide.2 (slopelaw3_num.calls 0 0 _ rfl)).mono ?_
  rintro e w7 ⟨rfl, hd⟩
  have hb := hd.below
  clear hd
  have m_a := Aside0.mk (HS_a.out.below hb)
  have m_b := Aside0.mk (HS_b.out.below hb)
  have m_c := Aside0.mk (HS_c.out.below hb)
  have mB := Aside0.mk (below_step HB.out hb)
  clear HB hb HS_a HS_b HS_c
  have HS_a := m_a; have HS_b := m_b; have HS_c := m_c; have HB := mB
  clear mB m_a m_b m_c
  obtain ⟨Aa_, ca_, Ka_, La_, Ca_⟩ := HS_a.out
  have q0a_ := (blk_cell Ka_ 0).trans rfl; have q1a_ := (blk_cell Ka_ 1).trans rfl; have HCa_ := Aside0.mk Ca_
  clear Ka_ Ca_
  obtain ⟨Ab_, cb_, Kb_, Lb_, Cb_⟩ := HS_b.out
  have q0b_ := (blk_cell Kb_ 0).trans rfl; have q1b_ := (blk_cell Kb_ 1).trans rfl; have HCb_ := Aside0.mk Cb_
  clear Kb_ Cb_
  gi_wp2_with fail
  refine ⟨trivial, ?_⟩; gi_at_call 53
  refine (callsIn_wide.2 (slopelaw3_union.calls k (N : Int) (N : Int) (fun k_ => k_ < _) _ _ a (N : Int) (fun k_ => k_ < _) _ _ b _ _ _ _ (Kd.V_mk La_ (Kd.C_F (Kd.heap_int .u64) HCa_.out)) (Kd.V_mk Lb_ (Kd.C_F (Kd.heap_int .u64) HCb_.out)) h_ab.out)).mono ?_
  rintro e w8 ⟨v, rfl, ho, hb⟩
  clear q0a_ q1a_ La_ HCa_
  clear q0b_ q1b_ Lb_ HCb_
  clear h_ab
  obtain ⟨A_ab, c_ab, rfl⟩ := Kd.R_slice ho
  have m_a := Aside0.mk ((HS_a.out.below hb).alloc (.cells #[.int .i64 (N : Int), .slice A_ab ab.length c_ab] 26 (0, 0)))
  have m_b := Aside0.mk ((HS_b.out.below hb).alloc (.cells #[.int .i64 (N : Int), .slice A_ab ab.length c_ab] 26 (0, 0)))
  have m_c := Aside0.mk ((HS_c.out.below hb).alloc (.cells #[.int .i64 (N : Int), .slice A_ab ab.length c_ab] 26 (0, 0)))
  have m_ab := Aside0.mk (Has.new (n := (N : Int)) ho)
  have mB := Aside0.mk (below_alloc (below_step HB.out hb) (.cells #[.int .i64 (N : Int), .slice A_ab ab.length c_ab] 26 (0, 0)))
  clear HB hb ho HS_a HS_b HS_c
  have HS_a := m_a; have HS_b := m_b; have HS_c := m_c; have HS_ab := m_ab; have HB := mB
  clear mB m_a m_b m_c m_ab
  obtain ⟨Ab_, cb_, Kb_, Lb_, Cb_⟩ := HS_b.out
  have q0b_ := (blk_cell Kb_ 0).trans rfl; have q1b_ := (blk_cell Kb_ 1).trans rfl; have HCb_ := Aside0.mk Cb_
  clear Kb_ Cb_
  obtain ⟨Aa_, ca_, Ka_, La_, Ca_⟩ := HS_a.out
  have q0a_ := (blk_cell Ka_ 0).trans rfl; have q1a_ := (blk_cell Ka_ 1).trans rfl; have HCa_ := Aside0.mk Ca_
  clear Ka_ Ca_
  gi_wp2_with fail
  refine ⟨trivial, ?_⟩; gi_at_call 53
  refine (callsIn_wide.2 (slopelaw3_union.calls k (N : Int) (N : Int) (fun k_ => k_ < _) _ _ b (N : Int) (fun k_ => k_ < _) _ _ a _ _ _ _ (Kd.V_mk Lb_ (Kd.C_F (Kd.heap_int .u64) HCb_.out)) (Kd.V_mk La_ (Kd.C_F (Kd.heap_int .u64) HCa_.out)) h_ba.out)).mono ?_
  rintro e w9 ⟨v, rfl, ho, hb⟩
  clear q0b_ q1b_ Lb_ HCb_
  clear q0a_ q1a_ La_ HCa_
  clear h_ba
  obtain ⟨A_ba, c_ba, rfl⟩ := Kd.R_slice ho
  have m_a := Aside0.mk ((HS_a.out.below hb).alloc (.cells #[.int .i64 (N : Int), .slice A_ba ba.length c_ba] 26 (0, 0)))
  have m_b := Aside0.mk ((HS_b.out.below hb).alloc (.cells #[.int .i64 (N : Int), .slice A_ba ba.length c_ba] 26 (0, 0)))
  have m_c := Aside0.mk ((HS_c.out.below hb).alloc (.cells #[.int .i64 (N : Int), .slice A_ba ba.length c_ba] 26 (0, 0)))
  have m_ab := Aside0.mk ((HS_ab.out.below hb).alloc (.cells #[.int .i64 (N : Int), .slice A_ba ba.length c_ba] 26 (0, 0)))
  have m_ba := Aside0.mk (Has.new (n := (N : Int)) ho)
  have mB := Aside0.mk (below_alloc (below_step HB.out hb) (.cells #[.int .i64 (N : Int), .slice A_ba ba.length c_ba] 26 (0, 0)))
  clear HB hb ho HS_a HS_b HS_c HS_ab
  have HS_a := m_a; have HS_b := m_b; have HS_c := m_c; have HS_ab := m_ab; have HS_ba := m_ba; have HB := mB
  clear mB m_a m_b m_c m_ab m_ba
  obtain ⟨Ab_, cb_, Kb_, Lb_, Cb_⟩ := HS_b.out
  have q0b_ := (blk_cell Kb_ 0).trans rfl; have q1b_ := (blk_cell Kb_ 1).trans rfl; have HCb_ := Aside0.mk Cb_
  clear Kb_ Cb_
  obtain ⟨Ac_, cc_, Kc_, Lc_, Cc_⟩ := HS_c.out
  have q0c_ := (blk_cell Kc_ 0).trans rfl; have q1c_ := (blk_cell Kc_ 1).trans rfl; have HCc_ := Aside0.mk Cc_
  clear Kc_ Cc_
  gi_wp2_with fail
  refine ⟨trivial, ?_⟩; gi_at_call 53
  refine (callsIn_wide.2 (slopelaw3_union.calls k (N : Int) (N : Int) (fun k_ => k_ < _) _ _ b (N : Int) (fun k_ => k_ < _) _ _ c _ _ _ _ (Kd.V_mk Lb_ (Kd.C_F (Kd.heap_int .u64) HCb_.out)) (Kd.V_mk Lc_ (Kd.C_F (Kd.heap_int .u64) HCc_.out)) h_bc.out)).mono ?_
  rintro e w10 ⟨v, rfl, ho, hb⟩
  clear q0b_ q1b_ Lb_ HCb_
  clear q0c_ q1c_ Lc_ HCc_
  clear h_bc
  obtain ⟨A_bc, c_bc, rfl⟩ := Kd.R_slice ho
  have m_a := Aside0.mk ((HS_a.out.below hb).alloc (.cells #[.int .i64 (N : Int), .slice A_bc bc.length c_bc] 26 (0, 0)))
  have m_b := Aside0.mk ((HS_b.out.below hb).alloc (.cells #[.int .i64 (N : Int), .slice A_bc bc.length c_bc] 26 (0, 0)))
  have m_c := Aside0.mk ((HS_c.out.below hb).alloc (.cells #[.int .i64 (N : Int), .slice A_bc bc.length c_bc] 26 (0, 0)))
  have m_ab := Aside0.mk ((HS_ab.out.below hb).alloc (.cells #[.int .i64 (N : Int), .slice A_bc bc.length c_bc] 26 (0, 0)))
  have m_ba := Aside0.mk ((HS_ba.out.below hb).alloc (.cells #[.int .i64 (N : Int), .slice A_bc bc.length c_bc] 26 (0, 0)))
  have m_bc := Aside0.mk (Has.new (n := (N : Int)) ho)
  have mB := Aside0.mk (below_alloc (below_step HB.out hb) (.cells #[.int .i64 (N : Int), .slice A_bc bc.length c_bc] 26 (0, 0)))
  clear HB hb ho HS_a HS_b HS_c HS_ab HS_ba
  have HS_a := m_a; have HS_b := m_b; have HS_c := m_c; have HS_ab := m_ab; have HS_ba := m_ba; have HS_bc := m_bc; have HB := mB
  clear mB m_a m_b m_c m_ab m_ba m_bc
  obtain ⟨Aab_, cab_, Kab_, Lab_, Cab_⟩ := HS_ab.out
  have q0ab_ := (blk_cell Kab_ 0).trans rfl; have q1ab_ := (blk_cell Kab_ 1).trans rfl; have HCab_ := Aside0.mk Cab_
  clear Kab_ Cab_
  obtain ⟨Ac_, cc_, Kc_, Lc_, Cc_⟩ := HS_c.out
  have q0c_ := (blk_cell Kc_ 0).trans rfl; have q1c_ := (blk_cell Kc_ 1).trans rfl; have HCc_ := Aside0.mk Cc_
  clear Kc_ Cc_
  gi_wp2_with fail
  refine ⟨trivial, ?_⟩; gi_at_call 53
  refine (callsIn_wide.2 (slopelaw3_union.calls k (N : Int) (N : Int) (fun k_ => k_ < _) _ _ ab (N : Int) (fun k_ => k_ < _) _ _ c _ _ _ _ (Kd.V_mk Lab_ (Kd.C_F (Kd.heap_int .u64) HCab_.out)) (Kd.V_mk Lc_ (Kd.C_F (Kd.heap_int .u64) HCc_.out)) h_lf.out)).mono ?_
  rintro e w11 ⟨v, rfl, ho, hb⟩
  clear q0ab_ q1ab_ Lab_ HCab_
  clear q0c_ q1c_ Lc_ HCc_
  clear h_lf
  obtain ⟨A_lf, c_lf, rfl⟩ := Kd.R_slice ho
  have m_a := Aside0.mk ((HS_a.out.below hb).alloc (.cells #[.int .i64 (N : Int), .slice A_lf lf.length c_lf] 26 (0, 0)))
  have m_b := Aside0.mk ((HS_b.out.below hb).alloc (.cells #[.int .i64 (N : Int), .slice A_lf lf.length c_lf] 26 (0, 0)))
  have m_c := Aside0.mk ((HS_c.out.below hb).alloc (.cells #[.int .i64 (N : Int), .slice A_lf lf.length c_lf] 26 (0, 0)))
  have m_ab := Aside0.mk ((HS_ab.out.below hb).alloc (.cells #[.int .i64 (N : Int), .slice A_lf lf.length c_lf] 26 (0, 0)))
  have m_ba := Aside0.mk ((HS_ba.out.below hb).alloc (.cells #[.int .i64 (N : Int), .slice A_lf lf.length c_lf] 26 (0, 0)))
  have m_bc := Aside0.mk ((HS_bc.out.below hb).alloc (.cells #[.int .i64 (N : Int), .slice A_lf lf.length c_lf] 26 (0, 0)))
  have m_lf := Aside0.mk (Has.new (n := (N : Int)) ho)
  have mB := Aside0.mk (below_alloc (below_step HB.out hb) (.cells #[.int .i64 (N : Int), .slice A_lf lf.length c_lf] 26 (0, 0)))
  clear HB hb ho HS_a HS_b HS_c HS_ab HS_ba HS_bc
  have HS_a := m_a; have HS_b := m_b; have HS_c := m_c; have HS_ab := m_ab; have HS_ba := m_ba; have HS_bc := m_bc; have HS_lf := m_lf; have HB := mB
  clear mB m_a m_b m_c m_ab m_ba m_bc m_lf
  obtain ⟨Aa_, ca_, Ka_, La_, Ca_⟩ := HS_a.out
  have q0a_ := (blk_cell Ka_ 0).trans rfl; have q1a_ := (blk_cell Ka_ 1).trans rfl; have HCa_ := Aside0.mk Ca_
  clear Ka_ Ca_
  obtain ⟨Abc_, cbc_, Kbc_, Lbc_, Cbc_⟩ := HS_bc.out
  have q0bc_ := (blk_cell Kbc_ 0).trans rfl; have q1bc_ := (blk_cell Kbc_ 1).trans rfl; have HCbc_ := Aside0.mk Cbc_
  clear Kbc_ Cbc_
  gi_wp2_with fail
  refine ⟨trivial, ?_⟩; gi_at_call 53
  refine (callsIn_wide.2 (slopelaw3_union.calls k (N : Int) (N : Int) (fun k_ => k_ < _) _ _ a (N : Int) (fun k_ => k_ < _) _ _ bc _ _ _ _ (Kd.V_mk La_ (Kd.C_F (Kd.heap_int .u64) HCa_.out)) (Kd.V_mk Lbc_ (Kd.C_F (Kd.heap_int .u64) HCbc_.out)) h_rg.out)).mono ?_
  rintro e w12 ⟨v, rfl, ho, hb⟩
  clear q0a_ q1a_ La_ HCa_
  clear q0bc_ q1bc_ Lbc_ HCbc_
  clear h_rg
  obtain ⟨A_rg, c_rg, rfl⟩ := Kd.R_slice ho
  have m_a := Aside0.mk ((HS_a.out.below hb).alloc (.cells #[.int .i64 (N : Int), .slice A_rg rg.length c_rg] 26 (0, 0)))
  have m_b := Aside0.mk ((HS_b.out.below hb).alloc (.cells #[.int .i64 (N : Int), .slice A_rg rg.length c_rg] 26 (0, 0)))
  have m_c := Aside0.mk ((HS_c.out.below hb).alloc (.cells #[.int .i64 (N : Int), .slice A_rg rg.length c_rg] 26 (0, 0)))
  have m_ab := Aside0.mk ((HS_ab.out.below hb).alloc (.cells #[.int .i64 (N : Int), .slice A_rg rg.length c_rg] 26 (0, 0)))
  have m_ba := Aside0.mk ((HS_ba.out.below hb).alloc (.cells #[.int .i64 (N : Int), .slice A_rg rg.length c_rg] 26 (0, 0)))
  have m_bc := Aside0.mk ((HS_bc.out.below hb).alloc (.cells #[.int .i64 (N : Int), .slice A_rg rg.length c_rg] 26 (0, 0)))
  have m_lf := Aside0.mk ((HS_lf.out.below hb).alloc (.cells #[.int .i64 (N : Int), .slice A_rg rg.length c_rg] 26 (0, 0)))
  have m_rg := Aside0.mk (Has.new (n := (N : Int)) ho)
  have mB := Aside0.mk (below_alloc (below_step HB.out hb) (.cells #[.int .i64 (N : Int), .slice A_rg rg.length c_rg] 26 (0, 0)))
  clear HB hb ho HS_a HS_b HS_c HS_ab HS_ba HS_bc HS_lf
  have HS_a := m_a; have HS_b := m_b; have HS_c := m_c; have HS_ab := m_ab; have HS_ba := m_ba; have HS_bc := m_bc; have HS_lf := m_lf; have HS_rg := m_rg; have HB := mB
  clear mB m_a m_b m_c m_ab m_ba m_bc m_lf m_rg
  obtain ⟨Aa_, ca_, Ka_, La_, Ca_⟩ := HS_a.out
  have q0a_ := (blk_cell Ka_ 0).trans rfl; have q1a_ := (blk_cell Ka_ 1).trans rfl; have HCa_ := Aside0.mk Ca_
  clear Ka_ Ca_
  obtain ⟨Ab_, cb_, Kb_, Lb_, Cb_⟩ := HS_b.out
  have q0b_ := (blk_cell Kb_ 0).trans rfl; have q1b_ := (blk_cell Kb_ 1).trans rfl; have HCb_ := Aside0.mk Cb_
  clear Kb_ Cb_
  obtain ⟨Ac_, cc_, Kc_, Lc_, Cc_⟩ := HS_c.out
  have q0c_ := (blk_cell Kc_ 0).trans rfl; have q1c_ := (blk_cell Kc_ 1).trans rfl; have HCc_ := Aside0.mk Cc_
  clear Kc_ Cc_
  gi_wp2_with fail
  have hl3 := Has.three (n := (N : Int)) La_ HCa_.out Lb_ HCb_.out Lc_ HCc_.out
  rw [World.size_alloc] at hl3
  have HL3 := Aside0.mk hl3
  clear hl3
  have m_a := Aside0.mk (HS_a.out.alloc (.cells #[.int .i64 (N : Int), .slice Aa_ a.length ca_, .int .i64 (N : Int), .slice Ab_ b.length cb_, .int .i64 (N : Int), .slice Ac_ c.length cc_] 26 (0, 0)))
  have m_b := Aside0.mk (HS_b.out.alloc (.cells #[.int .i64 (N : Int), .slice Aa_ a.length ca_, .int .i64 (N : Int), .slice Ab_ b.length cb_, .int .i64 (N : Int), .slice Ac_ c.length cc_] 26 (0, 0)))
  have m_c := Aside0.mk (HS_c.out.alloc (.cells #[.int .i64 (N : Int), .slice Aa_ a.length ca_, .int .i64 (N : Int), .slice Ab_ b.length cb_, .int .i64 (N : Int), .slice Ac_ c.length cc_] 26 (0, 0)))
  have m_ab := Aside0.mk (HS_ab.out.alloc (.cells #[.int .i64 (N : Int), .slice Aa_ a.length ca_, .int .i64 (N : Int), .slice Ab_ b.length cb_, .int .i64 (N : Int), .slice Ac_ c.length cc_] 26 (0, 0)))
  have m_ba := Aside0.mk (HS_ba.out.alloc (.cells #[.int .i64 (N : Int), .slice Aa_ a.length ca_, .int .i64 (N : Int), .slice Ab_ b.length cb_, .int .i64 (N : Int), .slice Ac_ c.length cc_] 26 (0, 0)))
  have m_bc := Aside0.mk (HS_bc.out.alloc (.cells #[.int .i64 (N : Int), .slice Aa_ a.length ca_, .int .i64 (N : Int), .slice Ab_ b.length cb_, .int .i64 (N : Int), .slice Ac_ c.length cc_] 26 (0, 0)))
  have m_lf := Aside0.mk (HS_lf.out.alloc (.cells #[.int .i64 (N : Int), .slice Aa_ a.length ca_, .int .i64 (N : Int), .slice Ab_ b.length cb_, .int .i64 (N : Int), .slice Ac_ c.length cc_] 26 (0, 0)))
  have m_rg := Aside0.mk (HS_rg.out.alloc (.cells #[.int .i64 (N : Int), .slice Aa_ a.length ca_, .int .i64 (N : Int), .slice Ab_ b.length cb_, .int .i64 (N : Int), .slice Ac_ c.length cc_] 26 (0, 0)))
  have mB := Aside0.mk (below_alloc HB.out (.cells #[.int .i64 (N : Int), .slice Aa_ a.length ca_, .int .i64 (N : Int), .slice Ab_ b.length cb_, .int .i64 (N : Int), .slice Ac_ c.length cc_] 26 (0, 0)))
  clear HB HS_a HS_b HS_c HS_ab HS_ba HS_bc HS_lf HS_rg
  have HS_a := m_a; have HS_b := m_b; have HS_c := m_c; have HS_ab := m_ab; have HS_ba := m_ba; have HS_bc := m_bc; have HS_lf := m_lf; have HS_rg := m_rg; have HB := mB
  clear mB m_a m_b m_c m_ab m_ba m_bc m_lf m_rg
  refine ⟨trivial, ?_⟩; gi_at_call 32
  refine (callsIn_wide.2 (bitset_Union.calls k (N : Int) _ 3 ([(⟨(N : Int), a⟩ : S26), (⟨(N : Int), b⟩ : S26), (⟨(N : Int), c⟩ : S26)] : List S26) _ _ _ _ HL3.out (Nat.le_refl _) h_al.out)).mono ?_
  rintro e w13 ⟨v, rfl, ho, hb⟩
  clear HL3
  clear q0a_ q1a_ La_ HCa_
  clear q0b_ q1b_ Lb_ HCb_
  clear q0c_ q1c_ Lc_ HCc_
  clear h_al
  obtain ⟨A_al, c_al, rfl⟩ := Kd.R_slice ho
  have m_a := Aside0.mk ((HS_a.out.below hb).alloc (.cells #[.int .i64 (N : Int), .slice A_al al.length c_al] 26 (0, 0)))
  have m_b := Aside0.mk ((HS_b.out.below hb).alloc (.cells #[.int .i64 (N : Int), .slice A_al al.length c_al] 26 (0, 0)))
  have m_c := Aside0.mk ((HS_c.out.below hb).alloc (.cells #[.int .i64 (N : Int), .slice A_al al.length c_al] 26 (0, 0)))
  have m_ab := Aside0.mk ((HS_ab.out.below hb).alloc (.cells #[.int .i64 (N : Int), .slice A_al al.length c_al] 26 (0, 0)))
  have m_ba := Aside0.mk ((HS_ba.out.below hb).alloc (.cells #[.int .i64 (N : Int), .slice A_al al.length c_al] 26 (0, 0)))
  have m_bc := Aside0.mk ((HS_bc.out.below hb).alloc (.cells #[.int .i64 (N : Int), .slice A_al al.length c_al] 26 (0, 0)))
  have m_lf := Aside0.mk ((HS_lf.out.below hb).alloc (.cells #[.int .i64 (N : Int), .slice A_al al.length c_al] 26 (0, 0)))
  have m_rg := Aside0.mk ((HS_rg.out.below hb).alloc (.cells #[.int .i64 (N : Int), .slice A_al al.length c_al] 26 (0, 0)))
  have m_al := Aside0.mk (Has.new (n := (N : Int)) ho)
  have mB := Aside0.mk (below_alloc (below_step HB.out hb) (.cells #[.int .i64 (N : Int), .slice A_al al.length c_al] 26 (0, 0)))
  clear HB hb ho HS_a HS_b HS_c HS_ab HS_ba HS_bc HS_lf HS_rg
  have HS_a := m_a; have HS_b := m_b; have HS_c := m_c; have HS_ab := m_ab; have HS_ba := m_ba; have HS_bc := m_bc; have HS_lf := m_lf; have HS_rg := m_rg; have HS_al := m_al; have HB := mB
  clear mB m_a m_b m_c m_ab m_ba m_bc m_lf m_rg m_al
  obtain ⟨Aa_, ca_, Ka_, La_, Ca_⟩ := HS_a.out
  have q0a_ := (blk_cell Ka_ 0).trans rfl; have q1a_ := (blk_cell Ka_ 1).trans rfl; have HCa_ := Aside0.mk Ca_
  clear Ka_ Ca_
  obtain ⟨Ab_, cb_, Kb_, Lb_, Cb_⟩ := HS_b.out
  have q0b_ := (blk_cell Kb_ 0).trans rfl; have q1b_ := (blk_cell Kb_ 1).trans rfl; have HCb_ := Aside0.mk Cb_
  clear Kb_ Cb_
  gi_wp2_with fail
  refine ⟨trivial, ?_⟩; gi_at_call 54
  refine (callsIn_wide.2 (slopelaw3_inter.calls k (N : Int) (N : Int) (fun k_ => k_ < _) _ _ a (N : Int) (fun k_ => k_ < _) _ _ b _ _ _ _ (Kd.V_mk La_ (Kd.C_F (Kd.heap_int .u64) HCa_.out)) (Kd.V_mk Lb_ (Kd.C_F (Kd.heap_int .u64) HCb_.out)) h_ib.out)).mono ?_
  rintro e w14 ⟨v, rfl, ho, hb⟩
  clear q0a_ q1a_ La_ HCa_
  clear q0b_ q1b_ Lb_ HCb_
  clear h_ib
  obtain ⟨A_ib, c_ib, rfl⟩ := Kd.R_slice ho
  have m_a := Aside0.mk ((HS_a.out.below hb).alloc (.cells #[.int .i64 (N : Int), .slice A_ib ib.length c_ib] 26 (0, 0)))
  have m_b := Aside0.mk ((HS_b.out.below hb).alloc (.cells #[.int .i64 (N : Int), .slice A_ib ib.length c_ib] 26 (0, 0)))
  have m_c := Aside0.mk ((HS_c.out.below hb).alloc (.cells #[.int .i64 (N : Int), .slice A_ib ib.length c_ib] 26 (0, 0)))
  have m_ab := Aside0.mk ((HS_ab.out.below hb).alloc (.cells #[.int .i64 (N : Int), .slice A_ib ib.length c_ib] 26 (0, 0)))
  have m_ba := Aside0.mk ((HS_ba.out.below hb).alloc (.cells #[.int .i64 (N : Int), .slice A_ib ib.length c_ib] 26 (0, 0)))
  have m_bc := Aside0.mk ((HS_bc.out.below hb).alloc (.cells #[.int .i64 (N : Int), .slice A_ib ib.length c_ib] 26 (0, 0)))
  have m_lf := Aside0.mk ((HS_lf.out.below hb).alloc (.cells #[.int .i64 (N : Int), .slice A_ib ib.length c_ib] 26 (0, 0)))
  have m_rg := Aside0.mk ((HS_rg.out.below hb).alloc (.cells #[.int .i64 (N : Int), .slice A_ib ib.length c_ib] 26 (0, 0)))
  have m_al := Aside0.mk ((HS_al.out.below hb).alloc (.cells #[.int .i64 (N : Int), .slice A_ib ib.length c_ib] 26 (0, 0)))
  have m_ib := Aside0.mk (Has.new (n := (N : Int)) ho)
  have mB := Aside0.mk (below_alloc (below_step HB.out hb) (.cells #[.int .i64 (N : Int), .slice A_ib ib.length c_ib] 26 (0, 0)))
  clear HB hb ho HS_a HS_b HS_c HS_ab HS_ba HS_bc HS_lf HS_rg HS_al
  have HS_a := m_a; have HS_b := m_b; have HS_c := m_c; have HS_ab := m_ab; have HS_ba := m_ba; have HS_bc := m_bc; have HS_lf := m_lf; have HS_rg := m_rg; have HS_al := m_al; have HS_ib := m_ib; have HB := mB
  clear mB m_a m_b m_c m_ab m_ba m_bc m_lf m_rg m_al m_ib
  obtain ⟨Aa_, ca_, Ka_, La_, Ca_⟩ := HS_a.out
  have q0a_ := (blk_cell Ka_ 0).trans rfl; have q1a_ := (blk_cell Ka_ 1).trans rfl; have HCa_ := Aside0.mk Ca_
  clear Ka_ Ca_
  obtain ⟨Ac_, cc_, Kc_, Lc_, Cc_⟩ := HS_c.out
  have q0c_ := (blk_cell Kc_ 0).trans rfl; have q1c_ := (blk_cell Kc_ 1).trans rfl; have HCc_ := Aside0.mk Cc_
  clear Kc_ Cc_
  gi_wp2_with fail
  refine ⟨trivial, ?_⟩; gi_at_call 54
  refine (callsIn_wide.2 (slopelaw3_inter.calls k (N : Int) (N : Int) (fun k_ => k_ < _) _ _ a (N : Int) (fun k_ => k_ < _) _ _ c _ _ _ _ (Kd.V_mk La_ (Kd.C_F (Kd.heap_int .u64) HCa_.out)) (Kd.V_mk Lc_ (Kd.C_F (Kd.heap_int .u64) HCc_.out)) h_ic.out)).mono ?_
  rintro e w15 ⟨v, rfl, ho, hb⟩
  clear q0a_ q1a_ La_ HCa_
  clear q0c_ q1c_ Lc_ HCc_
  clear HS_c
  clear h_ic
  obtain ⟨A_ic, c_ic, rfl⟩ := Kd.R_slice ho
  have m_a := Aside0.mk ((HS_a.out.below hb).alloc (.cells #[.int .i64 (N : Int), .slice A_ic ic.length c_ic] 26 (0, 0)))
  have m_b := Aside0.mk ((HS_b.out.below hb).alloc (.cells #[.int .i64 (N : Int), .slice A_ic ic.length c_ic] 26 (0, 0)))
  have m_ab := Aside0.mk ((HS_ab.out.below hb).alloc (.cells #[.int .i64 (N : Int), .slice A_ic ic.length c_ic] 26 (0, 0)))
  have m_ba := Aside0.mk ((HS_ba.out.below hb).alloc (.cells #[.int .i64 (N : Int), .slice A_ic ic.length c_ic] 26 (0, 0)))
  have m_bc := Aside0.mk ((HS_bc.out.below hb).alloc (.cells #[.int .i64 (N : Int), .slice A_ic ic.length c_ic] 26 (0, 0)))
  have m_lf := Aside0.mk ((HS_lf.out.below hb).alloc (.cells #[.int .i64 (N : Int), .slice A_ic ic.length c_ic] 26 (0, 0)))
  have m_rg := Aside0.mk ((HS_rg.out.below hb).alloc (.cells #[.int .i64 (N : Int), .slice A_ic ic.length c_ic] 26 (0, 0)))
  have m_al := Aside0.mk ((HS_al.out.below hb).alloc (.cells #[.int .i64 (N : Int), .slice A_ic ic.length c_ic] 26 (0, 0)))
  have m_ib := Aside0.mk ((HS_ib.out.below hb).alloc (.cells #[.int .i64 (N : Int), .slice A_ic ic.length c_ic] 26 (0, 0)))
  have m_ic := Aside0.mk (Has.new (n := (N : Int)) ho)
  have mB := Aside0.mk (below_alloc (below_step HB.out hb) (.cells #[.int .i64 (N : Int), .slice A_ic ic.length c_ic] 26 (0, 0)))
  clear HB hb ho HS_a HS_b HS_ab HS_ba HS_bc HS_lf HS_rg HS_al HS_ib
  have HS_a := m_a; have HS_b := m_b; have HS_ab := m_ab; have HS_ba := m_ba; have HS_bc := m_bc; have HS_lf := m_lf; have HS_rg := m_rg; have HS_al := m_al; have HS_ib := m_ib; have HS_ic := m_ic; have HB := mB
  clear mB m_a m_b m_ab m_ba m_bc m_lf m_rg m_al m_ib m_ic
  obtain ⟨Aa_, ca_, Ka_, La_, Ca_⟩ := HS_a.out
  have q0a_ := (blk_cell Ka_ 0).trans rfl; have q1a_ := (blk_cell Ka_ 1).trans rfl; have HCa_ := Aside0.mk Ca_
  clear Ka_ Ca_
  obtain ⟨Abc_, cbc_, Kbc_, Lbc_, Cbc_⟩ := HS_bc.out
  have q0bc_ := (blk_cell Kbc_ 0).trans rfl; have q1bc_ := (blk_cell Kbc_ 1).trans rfl; have HCbc_ := Aside0.mk Cbc_
  clear Kbc_ Cbc_
  gi_wp2_with fail
  refine ⟨trivial, ?_⟩; gi_at_call 54
  refine (callsIn_wide.2 (slopelaw3_inter.calls k (N : Int) (N : Int) (fun k_ => k_ < _) _ _ a (N : Int) (fun k_ => k_ < _) _ _ bc _ _ _ _ (Kd.V_mk La_ (Kd.C_F (Kd.heap_int .u64) HCa_.out)) (Kd.V_mk Lbc_ (Kd.C_F (Kd.heap_int .u64) HCbc_.out)) h_ov.out)).mono ?_
  rintro e w16 ⟨v, rfl, ho, hb⟩
  clear q0a_ q1a_ La_ HCa_
  clear q0bc_ q1bc_ Lbc_ HCbc_
  clear HS_bc
  clear h_ov
  obtain ⟨A_ov, c_ov, rfl⟩ := Kd.R_slice ho
  have m_a := Aside0.mk ((HS_a.out.below hb).alloc (.cells #[.int .i64 (N : Int), .slice A_ov ov.length c_ov] 26 (0, 0)))
  have m_b := Aside0.mk ((HS_b.out.below hb).alloc (.cells #[.int .i64 (N : Int), .slice A_ov ov.length c_ov] 26 (0, 0)))
  have m_ab := Aside0.mk ((HS_ab.out.below hb).alloc (.cells #[.int .i64 (N : Int), .slice A_ov ov.length c_ov] 26 (0, 0)))
  have m_ba := Aside0.mk ((HS_ba.out.below hb).alloc (.cells #[.int .i64 (N : Int), .slice A_ov ov.length c_ov] 26 (0, 0)))
  have m_lf := Aside0.mk ((HS_lf.out.below hb).alloc (.cells #[.int .i64 (N : Int), .slice A_ov ov.length c_ov] 26 (0, 0)))
  have m_rg := Aside0.mk ((HS_rg.out.below hb).alloc (.cells #[.int .i64 (N : Int), .slice A_ov ov.length c_ov] 26 (0, 0)))
  have m_al := Aside0.mk ((HS_al.out.below hb).alloc (.cells #[.int .i64 (N : Int), .slice A_ov ov.length c_ov] 26 (0, 0)))
  have m_ib := Aside0.mk ((HS_ib.out.below hb).alloc (.cells #[.int .i64 (N : Int), .slice A_ov ov.length c_ov] 26 (0, 0)))
  have m_ic := Aside0.mk ((HS_ic.out.below hb).alloc (.cells #[.int .i64 (N : Int), .slice A_ov ov.length c_ov] 26 (0, 0)))
  have m_ov := Aside0.mk (Has.new (n := (N : Int)) ho)
  have mB := Aside0.mk (below_alloc (below_step HB.out hb) (.cells #[.int .i64 (N : Int), .slice A_ov ov.length c_ov] 26 (0, 0)))
  clear HB hb ho HS_a HS_b HS_ab HS_ba HS_lf HS_rg HS_al HS_ib HS_ic
  have HS_a := m_a; have HS_b := m_b; have HS_ab := m_ab; have HS_ba := m_ba; have HS_lf := m_lf; have HS_rg := m_rg; have HS_al := m_al; have HS_ib := m_ib; have HS_ic := m_ic; have HS_ov := m_ov; have HB := mB
  clear mB m_a m_b m_ab m_ba m_lf m_rg m_al m_ib m_ic m_ov
  obtain ⟨Aib_, cib_, Kib_, Lib_, Cib_⟩ := HS_ib.out
  have q0ib_ := (blk_cell Kib_ 0).trans rfl; have q1ib_ := (blk_cell Kib_ 1).trans rfl; have HCib_ := Aside0.mk Cib_
  clear Kib_ Cib_
  obtain ⟨Aic_, cic_, Kic_, Lic_, Cic_⟩ := HS_ic.out
  have q0ic_ := (blk_cell Kic_ 0).trans rfl; have q1ic_ := (blk_cell Kic_ 1).trans rfl; have HCic_ := Aside0.mk Cic_
  clear Kic_ Cic_
  gi_wp2_with fail
  refine ⟨trivial, ?_⟩; gi_at_call 53
  refine (callsIn_wide.2 (slopelaw3_union.calls k (N : Int) (N : Int) (fun k_ => k_ < _) _ _ ib (N : Int) (fun k_ => k_ < _) _ _ ic _ _ _ _ (Kd.V_mk Lib_ (Kd.C_F (Kd.heap_int .u64) HCib_.out)) (Kd.V_mk Lic_ (Kd.C_F (Kd.heap_int .u64) HCic_.out)) h_sm.out)).mono ?_
  rintro e w17 ⟨v, rfl, ho, hb⟩
  clear q0ib_ q1ib_ Lib_ HCib_
  clear q0ic_ q1ic_ Lic_ HCic_
  clear HS_ic
  clear h_sm
  obtain ⟨A_sm, c_sm, rfl⟩ := Kd.R_slice ho
  have m_a := Aside0.mk ((HS_a.out.below hb).alloc (.cells #[.int .i64 (N : Int), .slice A_sm sm.length c_sm] 26 (0, 0)))
  have m_b := Aside0.mk ((HS_b.out.below hb).alloc (.cells #[.int .i64 (N : Int), .slice A_sm sm.length c_sm] 26 (0, 0)))
  have m_ab := Aside0.mk ((HS_ab.out.below hb).alloc (.cells #[.int .i64 (N : Int), .slice A_sm sm.length c_sm] 26 (0, 0)))
  have m_ba := Aside0.mk ((HS_ba.out.below hb).alloc (.cells #[.int .i64 (N : Int), .slice A_sm sm.length c_sm] 26 (0, 0)))
  have m_lf := Aside0.mk ((HS_lf.out.below hb).alloc (.cells #[.int .i64 (N : Int), .slice A_sm sm.length c_sm] 26 (0, 0)))
  have m_rg := Aside0.mk ((HS_rg.out.below hb).alloc (.cells #[.int .i64 (N : Int), .slice A_sm sm.length c_sm] 26 (0, 0)))
  have m_al := Aside0.mk ((HS_al.out.below hb).alloc (.cells #[.int .i64 (N : Int), .slice A_sm sm.length c_sm] 26 (0, 0)))
  have m_ib := Aside0.mk ((HS_ib.out.below hb).alloc (.cells #[.int .i64 (N : Int), .slice A_sm sm.length c_sm] 26 (0, 0)))
  have m_ov := Aside0.mk ((HS_ov.out.below hb).alloc (.cells #[.int .i64 (N : Int), .slice A_sm sm.length c_sm] 26 (0, 0)))
  have m_sm := Aside0.mk (Has.new (n := (N : Int)) ho)
  have mB := Aside0.mk (below_alloc (below_step HB.out hb) (.cells #[.int .i64 (N : Int), .slice A_sm sm.length c_sm] 26 (0, 0)))
  clear HB hb ho HS_a HS_b HS_ab HS_ba HS_lf HS_rg HS_al HS_ib HS_ov
  have HS_a := m_a; have HS_b := m_b; have HS_ab := m_ab; have HS_ba := m_ba; have HS_lf := m_lf; have HS_rg := m_rg; have HS_al := m_al; have HS_ib := m_ib; have HS_ov := m_ov; have HS_sm := m_sm; have HB := mB
  clear mB m_a m_b m_ab m_ba m_lf m_rg m_al m_ib m_ov m_sm
  gi_wp2_with fail
  refine ⟨trivial, ?_⟩; gi_at_call 19
  refine (callsIn_wide.2 (slopelaw3_num.calls 0 0 _ rfl)).mono ?_
  rintro e w18 ⟨rfl, hd⟩
  have hb := hd.below
  clear hd
  have m_a := Aside0.mk (HS_a.out.below hb)
  have m_b := Aside0.mk (HS_b.out.below hb)
  have m_ab := Aside0.mk (HS_ab.out.below hb)
  have m_ba := Aside0.mk (HS_ba.out.below hb)
  have m_lf := Aside0.mk (HS_lf.out.below hb)
  have m_rg := Aside0.mk (HS_rg.out.below hb)
  have m_al := Aside0.mk (HS_al.out.below hb)
  have m_ib := Aside0.mk (HS_ib.out.below hb)
  have m_ov := Aside0.mk (HS_ov.out.below hb)
  have m_sm := Aside0.mk (HS_sm.out.below hb)
  have mB := Aside0.mk (below_step HB.out hb)
  clear HB hb HS_a HS_b HS_ab HS_ba HS_lf HS_rg HS_al HS_ib HS_ov HS_sm
  have HS_a := m_a; have HS_b := m_b; have HS_ab := m_ab; have HS_ba := m_ba; have HS_lf := m_lf; have HS_rg := m_rg; have HS_al := m_al; have HS_ib := m_ib; have HS_ov := m_ov; have HS_sm := m_sm; have HB := mB
  clear mB m_a m_b m_ab m_ba m_lf m_rg m_al m_ib m_ov m_sm
  obtain ⟨Aab_, cab_, Kab_, Lab_, Cab_⟩ := HS_ab.out
  have q0ab_ := (blk_cell Kab_ 0).trans rfl; have q1ab_ := (blk_cell Kab_ 1).trans rfl; have HCab_ := Aside0.mk Cab_
  clear Kab_ Cab_
  obtain ⟨Aba_, cba_, Kba_, Lba_, Cba_⟩ := HS_ba.out
  have q0ba_ := (blk_cell Kba_ 0).trans rfl; have q1ba_ := (blk_cell Kba_ 1).trans rfl; have HCba_ := Aside0.mk Cba_
  clear Kba_ Cba_
  gi_wp2_with fail
  refine ⟨trivial, ?_⟩; gi_at_call 18
  refine (callsIn_wide.2 (slopelaw3_same.calls k (N : Int) _ _ ab (N : Int) _ _ ba _ _ HCab_.out Lab_ HCba_.out Lba_ t_1.out)).mono ?_
  rintro e w19 ⟨rfl, hb⟩
  clear q0ab_ q1ab_ Lab_ HCab_
  clear q0ba_ q1ba_ Lba_ HCba_
  clear HS_ba
  clear t_1
  have m_a := Aside0.mk (HS_a.out.below hb)
  have m_b := Aside0.mk (HS_b.out.below hb)
  have m_ab := Aside0.mk (HS_ab.out.below hb)
  have m_lf := Aside0.mk (HS_lf.out.below hb)
  have m_rg := Aside0.mk (HS_rg.out.below hb)
  have m_al := Aside0.mk (HS_al.out.below hb)
  have m_ib := Aside0.mk (HS_ib.out.below hb)
  have m_ov := Aside0.mk (HS_ov.out.below hb)
  have m_sm := Aside0.mk (HS_sm.out.below hb)
  have mB := Aside0.mk (below_step HB.out hb)
  clear HB hb HS_a HS_b HS_ab HS_lf HS_rg HS_al HS_ib HS_ov HS_sm
  have HS_a := m_a; have HS_b := m_b; have HS_ab := m_ab; have HS_lf := m_lf; have HS_rg := m_rg; have HS_al := m_al; have HS_ib := m_ib; have HS_ov := m_ov; have HS_sm := m_sm; have HB := mB
  clear mB m_a m_b m_ab m_lf m_rg m_al m_ib m_ov m_sm
  obtain ⟨Alf_, clf_, Klf_, Llf_, Clf_⟩ := HS_lf.out
  have q0lf_ := (blk_cell Klf_ 0).trans rfl; have q1lf_ := (blk_cell Klf_ 1).trans rfl; have HClf_ := Aside0.mk Clf_
  clear Klf_ Clf_
  obtain ⟨Arg_, crg_, Krg_, Lrg_, Crg_⟩ := HS_rg.out
  have q0rg_ := (blk_cell Krg_ 0).trans rfl; have q1rg_ := (blk_cell Krg_ 1).trans rfl; have HCrg_ := Aside0.mk Crg_
  clear Krg_ Crg_
  gi_wp2_with fail
  refine ⟨trivial, ?_⟩; gi_at_call 18
  refine (callsIn_wide.2 (slopelaw3_same.calls k (N : Int) _ _ lf (N : Int) _ _ rg _ _ HClf_.out Llf_ HCrg_.out Lrg_ t_2.out)).mono ?_
  rintro e w20 ⟨rfl, hb⟩
  clear q0lf_ q1lf_ Llf_ HClf_
  clear q0rg_ q1rg_ Lrg_ HCrg_
  clear HS_rg
  clear t_2
  have m_a := Aside0.mk (HS_a.out.below hb)
  have m_b := Aside0.mk (HS_b.out.below hb)
  have m_ab := Aside0.mk (HS_ab.out.below hb)
  have m_lf := Aside0.mk (HS_lf.out.below hb)
  have m_al := Aside0.mk (HS_al.out.below hb)
  have m_ib := Aside0.mk (HS_ib.out.below hb)
  have m_ov := Aside0.mk (HS_ov.out.below hb)
  have m_sm := Aside0.mk (HS_sm.out.below hb)
  have mB := Aside0.mk (below_step HB.out hb)
  clear HB hb HS_a HS_b HS_ab HS_lf HS_al HS_ib HS_ov HS_sm
  have HS_a := m_a; have HS_b := m_b; have HS_ab := m_ab; have HS_lf := m_lf; have HS_al := m_al; have HS_ib := m_ib; have HS_ov := m_ov; have HS_sm := m_sm; have HB := mB
  clear mB m_a m_b m_ab m_lf m_al m_ib m_ov m_sm
  obtain ⟨Alf_, clf_, Klf_, Llf_, Clf_⟩ := HS_lf.out
  have q0lf_ := (blk_cell Klf_ 0).trans rfl; have q1lf_ := (blk_cell Klf_ 1).trans rfl; have HClf_ := Aside0.mk Clf_
  clear Klf_ Clf_
  obtain ⟨Aal_, cal_, Kal_, Lal_, Cal_⟩ := HS_al.out
  have q0al_ := (blk_cell Kal_ 0).trans rfl; have q1al_ := (blk_cell Kal_ 1).trans rfl; have HCal_ := Aside0.mk Cal_
  clear Kal_ Cal_
  gi_wp2_with fail
  refine ⟨trivial, ?_⟩; gi_at_call 18
  refine (callsIn_wide.2 (slopelaw3_same.calls k (N : Int) _ _ lf (N : Int) _ _ al _ _ HClf_.out Llf_ HCal_.out Lal_ t_3.out)).mono ?_
  rintro e w21 ⟨rfl, hb⟩
  clear q0lf_ q1lf_ Llf_ HClf_
  clear q0al_ q1al_ Lal_ HCal_
  clear HS_lf HS_al
  clear t_3
  have m_a := Aside0.mk (HS_a.out.below hb)
  have m_b := Aside0.mk (HS_b.out.below hb)
  have m_ab := Aside0.mk (HS_ab.out.below hb)
  have m_ib := Aside0.mk (HS_ib.out.below hb)
  have m_ov := Aside0.mk (HS_ov.out.below hb)
  have m_sm := Aside0.mk (HS_sm.out.below hb)
  have mB := Aside0.mk (below_step HB.out hb)
  clear HB hb HS_a HS_b HS_ab HS_ib HS_ov HS_sm
  have HS_a := m_a; have HS_b := m_b; have HS_ab := m_ab; have HS_ib := m_ib; have HS_ov := m_ov; have HS_sm := m_sm; have HB := mB
  clear mB m_a m_b m_ab m_ib m_ov m_sm
  obtain ⟨Aov_, cov_, Kov_, Lov_, Cov_⟩ := HS_ov.out
  have q0ov_ := (blk_cell Kov_ 0).trans rfl; have q1ov_ := (blk_cell Kov_ 1).trans rfl; have HCov_ := Aside0.mk Cov_
  clear Kov_ Cov_
  obtain ⟨Asm_, csm_, Ksm_, Lsm_, Csm_⟩ := HS_sm.out
  have q0sm_ := (blk_cell Ksm_ 0).trans rfl; have q1sm_ := (blk_cell Ksm_ 1).trans rfl; have HCsm_ := Aside0.mk Csm_
  clear Ksm_ Csm_
  gi_wp2_with fail
  refine ⟨trivial, ?_⟩; gi_at_call 18
  refine (callsIn_wide.2 (slopelaw3_same.calls k (N : Int) _ _ ov (N : Int) _ _ sm _ _ HCov_.out Lov_ HCsm_.out Lsm_ t_4.out)).mono ?_
  rintro e w22 ⟨rfl, hb⟩
  clear q0ov_ q1ov_ Lov_ HCov_
  clear q0sm_ q1sm_ Lsm_ HCsm_
  clear t_4
  have m_a := Aside0.mk (HS_a.out.below hb)
  have m_b := Aside0.mk (HS_b.out.below hb)
  have m_ab := Aside0.mk (HS_ab.out.below hb)
  have m_ib := Aside0.mk (HS_ib.out.below hb)
  have m_ov := Aside0.mk (HS_ov.out.below hb)
  have m_sm := Aside0.mk (HS_sm.out.below hb)
  have mB := Aside0.mk (below_step HB.out hb)
  clear HB hb HS_a HS_b HS_ab HS_ib HS_ov HS_sm
  have HS_a := m_a; have HS_b := m_b; have HS_ab := m_ab; have HS_ib := m_ib; have HS_ov := m_ov; have HS_sm := m_sm; have HB := mB
  clear mB m_a m_b m_ab m_ib m_ov m_sm
  obtain ⟨Aov_, cov_, Kov_, Lov_, Cov_⟩ := HS_ov.out
  have q0ov_ := (blk_cell Kov_ 0).trans rfl; have q1ov_ := (blk_cell Kov_ 1).trans rfl; have HCov_ := Aside0.mk Cov_
  clear Kov_ Cov_
  obtain ⟨Asm_, csm_, Ksm_, Lsm_, Csm_⟩ := HS_sm.out
  have q0sm_ := (blk_cell Ksm_ 0).trans rfl; have q1sm_ := (blk_cell Ksm_ 1).trans rfl; have HCsm_ := Aside0.mk Csm_
  clear Ksm_ Csm_
  gi_wp2_with fail
  refine ⟨trivial, ?_⟩; gi_at_call 39
  refine (callsIn_wide.2 (bitset_Equal.calls k (N : Int) _ _ ov (N : Int) _ _ sm _ _ HCov_.out Lov_ HCsm_.out Lsm_ t_5.out)).mono ?_
  rintro e w23 ⟨rfl, hb⟩
  clear q0ov_ q1ov_ Lov_ HCov_
  clear q0sm_ q1sm_ Lsm_ HCsm_
  clear HS_ov HS_sm
  clear t_5
  have m_a := Aside0.mk (HS_a.out.below hb)
  have m_b := Aside0.mk (HS_b.out.below hb)
  have m_ab := Aside0.mk (HS_ab.out.below hb)
  have m_ib := Aside0.mk (HS_ib.out.below hb)
  have mB := Aside0.mk (below_step HB.out hb)
  clear HB hb HS_a HS_b HS_ab HS_ib
  have HS_a := m_a; have HS_b := m_b; have HS_ab := m_ab; have HS_ib := m_ib; have HB := mB
  clear mB m_a m_b m_ab m_ib
  obtain ⟨Aib_, cib_, Kib_, Lib_, Cib_⟩ := HS_ib.out
  have q0ib_ := (blk_cell Kib_ 0).trans rfl; have q1ib_ := (blk_cell Kib_ 1).trans rfl; have HCib_ := Aside0.mk Cib_
  clear Kib_ Cib_
  obtain ⟨Aa_, ca_, Ka_, La_, Ca_⟩ := HS_a.out
  have q0a_ := (blk_cell Ka_ 0).trans rfl; have q1a_ := (blk_cell Ka_ 1).trans rfl; have HCa_ := Aside0.mk Ca_
  clear Ka_ Ca_
  gi_wp2_with fail
  refine ⟨trivial, ?_⟩; gi_at_call 40
  refine (callsIn_wide.2 (bitset_Subset.calls k (N : Int) _ _ ib (N : Int) _ _ a _ _ HCib_.out Lib_ HCa_.out La_ t_6.out)).mono ?_
  rintro e w24 ⟨rfl, hb⟩
  clear q0ib_ q1ib_ Lib_ HCib_
  clear q0a_ q1a_ La_ HCa_
  clear t_6
  have m_a := Aside0.mk (HS_a.out.below hb)
  have m_b := Aside0.mk (HS_b.out.below hb)
  have m_ab := Aside0.mk (HS_ab.out.below hb)
  have m_ib := Aside0.mk (HS_ib.out.below hb)
  have mB := Aside0.mk (below_step HB.out hb)
  clear HB hb HS_a HS_b HS_ab HS_ib
  have HS_a := m_a; have HS_b := m_b; have HS_ab := m_ab; have HS_ib := m_ib; have HB := mB
  clear mB m_a m_b m_ab m_ib
  obtain ⟨Aa_, ca_, Ka_, La_, Ca_⟩ := HS_a.out
  have q0a_ := (blk_cell Ka_ 0).trans rfl; have q1a_ := (blk_cell Ka_ 1).trans rfl; have HCa_ := Aside0.mk Ca_
  clear Ka_ Ca_
  obtain ⟨Aab_, cab_, Kab_, Lab_, Cab_⟩ := HS_ab.out
  have q0ab_ := (blk_cell Kab_ 0).trans rfl; have q1ab_ := (blk_cell Kab_ 1).trans rfl; have HCab_ := Aside0.mk Cab_
  clear Kab_ Cab_
  gi_wp2_with fail
  refine ⟨trivial, ?_⟩; gi_at_call 40
  refine (callsIn_wide.2 (bitset_Subset.calls k (N : Int) _ _ a (N : Int) _ _ ab _ _ HCa_.out La_ HCab_.out Lab_ t_7.out)).mono ?_
  rintro e w25 ⟨rfl, hb⟩
  clear q0a_ q1a_ La_ HCa_
  clear q0ab_ q1ab_ Lab_ HCab_
  clear t_7
  have m_a := Aside0.mk (HS_a.out.below hb)
  have m_b := Aside0.mk (HS_b.out.below hb)
  have m_ab := Aside0.mk (HS_ab.out.below hb)
  have m_ib := Aside0.mk (HS_ib.out.below hb)
  have mB := Aside0.mk (below_step HB.out hb)
  clear HB hb HS_a HS_b HS_ab HS_ib
  have HS_a := m_a; have HS_b := m_b; have HS_ab := m_ab; have HS_ib := m_ib; have HB := mB
  clear mB m_a m_b m_ab m_ib
  obtain ⟨Aa_, ca_, Ka_, La_, Ca_⟩ := HS_a.out
  have q0a_ := (blk_cell Ka_ 0).trans rfl; have q1a_ := (blk_cell Ka_ 1).trans rfl; have HCa_ := Aside0.mk Ca_
  clear Ka_ Ca_
  gi_wp2_with fail
  refine ⟨trivial, ?_⟩; gi_at_call 44
  refine (callsIn_wide.2 (bitset_Rest.calls k (N : Int) _ _ a _ _ _ _ HCa_.out La_ h_ra.out)).mono ?_
  rintro e w26 ⟨v, rfl, ho, hb⟩
  clear q0a_ q1a_ La_ HCa_
  clear h_ra
  obtain ⟨A_ra, c_ra, rfl⟩ := Kd.R_slice ho
  have m_a := Aside0.mk ((HS_a.out.below hb).alloc (.cells #[.int .i64 (N : Int), .slice A_ra ra.length c_ra] 26 (0, 0)))
  have m_b := Aside0.mk ((HS_b.out.below hb).alloc (.cells #[.int .i64 (N : Int), .slice A_ra ra.length c_ra] 26 (0, 0)))
  have m_ab := Aside0.mk ((HS_ab.out.below hb).alloc (.cells #[.int .i64 (N : Int), .slice A_ra ra.length c_ra] 26 (0, 0)))
  have m_ib := Aside0.mk ((HS_ib.out.below hb).alloc (.cells #[.int .i64 (N : Int), .slice A_ra ra.length c_ra] 26 (0, 0)))
  have m_ra := Aside0.mk (Has.new (n := (N : Int)) ho)
  have mB := Aside0.mk (below_alloc (below_step HB.out hb) (.cells #[.int .i64 (N : Int), .slice A_ra ra.length c_ra] 26 (0, 0)))
  clear HB hb ho HS_a HS_b HS_ab HS_ib
  have HS_a := m_a; have HS_b := m_b; have HS_ab := m_ab; have HS_ib := m_ib; have HS_ra := m_ra; have HB := mB
  clear mB m_a m_b m_ab m_ib m_ra
  obtain ⟨Ab_, cb_, Kb_, Lb_, Cb_⟩ := HS_b.out
  have q0b_ := (blk_cell Kb_ 0).trans rfl; have q1b_ := (blk_cell Kb_ 1).trans rfl; have HCb_ := Aside0.mk Cb_
  clear Kb_ Cb_
  gi_wp2_with fail
  refine ⟨trivial, ?_⟩; gi_at_call 44
  refine (callsIn_wide.2 (bitset_Rest.calls k (N : Int) _ _ b _ _ _ _ HCb_.out Lb_ h_rb.out)).mono ?_
  rintro e w27 ⟨v, rfl, ho, hb⟩
  clear q0b_ q1b_ Lb_ HCb_
  clear h_rb
  obtain ⟨A_rb, c_rb, rfl⟩ := Kd.R_slice ho
  have m_a := Aside0.mk ((HS_a.out.below hb).alloc (.cells #[.int .i64 (N : Int), .slice A_rb rb.length c_rb] 26 (0, 0)))
  have m_b := Aside0.mk ((HS_b.out.below hb).alloc (.cells #[.int .i64 (N : Int), .slice A_rb rb.length c_rb] 26 (0, 0)))
  have m_ab := Aside0.mk ((HS_ab.out.below hb).alloc (.cells #[.int .i64 (N : Int), .slice A_rb rb.length c_rb] 26 (0, 0)))
  have m_ib := Aside0.mk ((HS_ib.out.below hb).alloc (.cells #[.int .i64 (N : Int), .slice A_rb rb.length c_rb] 26 (0, 0)))
  have m_ra := Aside0.mk ((HS_ra.out.below hb).alloc (.cells #[.int .i64 (N : Int), .slice A_rb rb.length c_rb] 26 (0, 0)))
  have m_rb := Aside0.mk (Has.new (n := (N : Int)) ho)
  have mB := Aside0.mk (below_alloc (below_step HB.out hb) (.cells #[.int .i64 (N : Int), .slice A_rb rb.length c_rb] 26 (0, 0)))
  clear HB hb ho HS_a HS_b HS_ab HS_ib HS_ra
  have HS_a := m_a; have HS_b := m_b; have HS_ab := m_ab; have HS_ib := m_ib; have HS_ra := m_ra; have HS_rb := m_rb; have HB := mB
  clear mB m_a m_b m_ab m_ib m_ra m_rb
  obtain ⟨Aab_, cab_, Kab_, Lab_, Cab_⟩ := HS_ab.out
  have q0ab_ := (blk_cell Kab_ 0).trans rfl; have q1ab_ := (blk_cell Kab_ 1).trans rfl; have HCab_ := Aside0.mk Cab_
  clear Kab_ Cab_
  gi_wp2_with fail
  refine ⟨trivial, ?_⟩; gi_at_call 44
  refine (callsIn_wide.2 (bitset_Rest.calls k (N : Int) _ _ ab _ _ _ _ HCab_.out Lab_ h_rab.out)).mono ?_
  rintro e w28 ⟨v, rfl, ho, hb⟩
  clear q0ab_ q1ab_ Lab_ HCab_
  clear h_rab
  obtain ⟨A_rab, c_rab, rfl⟩ := Kd.R_slice ho
  have m_a := Aside0.mk ((HS_a.out.below hb).alloc (.cells #[.int .i64 (N : Int), .slice A_rab rab.length c_rab] 26 (0, 0)))
  have m_b := Aside0.mk ((HS_b.out.below hb).alloc (.cells #[.int .i64 (N : Int), .slice A_rab rab.length c_rab] 26 (0, 0)))
  have m_ab := Aside0.mk ((HS_ab.out.below hb).alloc (.cells #[.int .i64 (N : Int), .slice A_rab rab.length c_rab] 26 (0, 0)))
  have m_ib := Aside0.mk ((HS_ib.out.below hb).alloc (.cells #[.int .i64 (N : Int), .slice A_rab rab.length c_rab] 26 (0, 0)))
  have m_ra := Aside0.mk ((HS_ra.out.below hb).alloc (.cells #[.int .i64 (N : Int), .slice A_rab rab.length c_rab] 26 (0, 0)))
  have m_rb := Aside0.mk ((HS_rb.out.below hb).alloc (.cells #[.int .i64 (N : Int), .slice A_rab rab.length c_rab] 26 (0, 0)))
  have m_rab := Aside0.mk (Has.new (n := (N : Int)) ho)
  have mB := Aside0.mk (below_alloc (below_step HB.out hb) (.cells #[.int .i64 (N : Int), .slice A_rab rab.length c_rab] 26 (0, 0)))
  clear HB hb ho HS_a HS_b HS_ab HS_ib HS_ra HS_rb
  have HS_a := m_a; have HS_b := m_b; have HS_ab := m_ab; have HS_ib := m_ib; have HS_ra := m_ra; have HS_rb := m_rb; have HS_rab := m_rab; have HB := mB
  clear mB m_a m_b m_ab m_ib m_ra m_rb m_rab
  obtain ⟨Ara_, cra_, Kra_, Lra_, Cra_⟩ := HS_ra.out
  have q0ra_ := (blk_cell Kra_ 0).trans rfl; have q1ra_ := (blk_cell Kra_ 1).trans rfl; have HCra_ := Aside0.mk Cra_
  clear Kra_ Cra_
  obtain ⟨Arb_, crb_, Krb_, Lrb_, Crb_⟩ := HS_rb.out
  have q0rb_ := (blk_cell Krb_ 0).trans rfl; have q1rb_ := (blk_cell Krb_ 1).trans rfl; have HCrb_ := Aside0.mk Crb_
  clear Krb_ Crb_
  gi_wp2_with fail
  refine ⟨trivial, ?_⟩; gi_at_call 54
  refine (callsIn_wide.2 (slopelaw3_inter.calls k (N : Int) (N : Int) (fun k_ => k_ < _) _ _ ra (N : Int) (fun k_ => k_ < _) _ _ rb _ _ _ _ (Kd.V_mk Lra_ (Kd.C_F (Kd.heap_int .u64) HCra_.out)) (Kd.V_mk Lrb_ (Kd.C_F (Kd.heap_int .u64) HCrb_.out)) h_bo.out)).mono ?_
  rintro e w29 ⟨v, rfl, ho, hb⟩
  clear q0ra_ q1ra_ Lra_ HCra_
  clear q0rb_ q1rb_ Lrb_ HCrb_
  clear h_bo
  obtain ⟨A_bo, c_bo, rfl⟩ := Kd.R_slice ho
  have m_a := Aside0.mk ((HS_a.out.below hb).alloc (.cells #[.int .i64 (N : Int), .slice A_bo bo.length c_bo] 26 (0, 0)))
  have m_b := Aside0.mk ((HS_b.out.below hb).alloc (.cells #[.int .i64 (N : Int), .slice A_bo bo.length c_bo] 26 (0, 0)))
  have m_ab := Aside0.mk ((HS_ab.out.below hb).alloc (.cells #[.int .i64 (N : Int), .slice A_bo bo.length c_bo] 26 (0, 0)))
  have m_ib := Aside0.mk ((HS_ib.out.below hb).alloc (.cells #[.int .i64 (N : Int), .slice A_bo bo.length c_bo] 26 (0, 0)))
  have m_ra := Aside0.mk ((HS_ra.out.below hb).alloc (.cells #[.int .i64 (N : Int), .slice A_bo bo.length c_bo] 26 (0, 0)))
  have m_rb := Aside0.mk ((HS_rb.out.below hb).alloc (.cells #[.int .i64 (N : Int), .slice A_bo bo.length c_bo] 26 (0, 0)))
  have m_rab := Aside0.mk ((HS_rab.out.below hb).alloc (.cells #[.int .i64 (N : Int), .slice A_bo bo.length c_bo] 26 (0, 0)))
  have m_bo := Aside0.mk (Has.new (n := (N : Int)) ho)
  have mB := Aside0.mk (below_alloc (below_step HB.out hb) (.cells #[.int .i64 (N : Int), .slice A_bo bo.length c_bo] 26 (0, 0)))
  clear HB hb ho HS_a HS_b HS_ab HS_ib HS_ra HS_rb HS_rab
  have HS_a := m_a; have HS_b := m_b; have HS_ab := m_ab; have HS_ib := m_ib; have HS_ra := m_ra; have HS_rb := m_rb; have HS_rab := m_rab; have HS_bo := m_bo; have HB := mB
  clear mB m_a m_b m_ab m_ib m_ra m_rb m_rab m_bo
  obtain ⟨Aa_, ca_, Ka_, La_, Ca_⟩ := HS_a.out
  have q0a_ := (blk_cell Ka_ 0).trans rfl; have q1a_ := (blk_cell Ka_ 1).trans rfl; have HCa_ := Aside0.mk Ca_
  clear Ka_ Ca_
  obtain ⟨Ab_, cb_, Kb_, Lb_, Cb_⟩ := HS_b.out
  have q0b_ := (blk_cell Kb_ 0).trans rfl; have q1b_ := (blk_cell Kb_ 1).trans rfl; have HCb_ := Aside0.mk Cb_
  clear Kb_ Cb_
  gi_wp2_with fail
  refine ⟨trivial, ?_⟩; gi_at_call 41
  refine (callsIn_wide.2 (bitset_Minus.calls k (N : Int) _ _ a (N : Int) _ _ b _ _ _ _ HCa_.out La_ HCb_.out Lb_ h_mi.out)).mono ?_
  rintro e w30 ⟨v, rfl, ho, hb⟩
  clear q0a_ q1a_ La_ HCa_
  clear q0b_ q1b_ Lb_ HCb_
  clear h_mi
  obtain ⟨A_mi, c_mi, rfl⟩ := Kd.R_slice ho
  have m_a := Aside0.mk ((HS_a.out.below hb).alloc (.cells #[.int .i64 (N : Int), .slice A_mi mi.length c_mi] 26 (0, 0)))
  have m_b := Aside0.mk ((HS_b.out.below hb).alloc (.cells #[.int .i64 (N : Int), .slice A_mi mi.length c_mi] 26 (0, 0)))
  have m_ab := Aside0.mk ((HS_ab.out.below hb).alloc (.cells #[.int .i64 (N : Int), .slice A_mi mi.length c_mi] 26 (0, 0)))
  have m_ib := Aside0.mk ((HS_ib.out.below hb).alloc (.cells #[.int .i64 (N : Int), .slice A_mi mi.length c_mi] 26 (0, 0)))
  have m_ra := Aside0.mk ((HS_ra.out.below hb).alloc (.cells #[.int .i64 (N : Int), .slice A_mi mi.length c_mi] 26 (0, 0)))
  have m_rb := Aside0.mk ((HS_rb.out.below hb).alloc (.cells #[.int .i64 (N : Int), .slice A_mi mi.length c_mi] 26 (0, 0)))
  have m_rab := Aside0.mk ((HS_rab.out.below hb).alloc (.cells #[.int .i64 (N : Int), .slice A_mi mi.length c_mi] 26 (0, 0)))
  have m_bo := Aside0.mk ((HS_bo.out.below hb).alloc (.cells #[.int .i64 (N : Int), .slice A_mi mi.length c_mi] 26 (0, 0)))
  have m_mi := Aside0.mk (Has.new (n := (N : Int)) ho)
  have mB := Aside0.mk (below_alloc (below_step HB.out hb) (.cells #[.int .i64 (N : Int), .slice A_mi mi.length c_mi] 26 (0, 0)))
  clear HB hb ho HS_a HS_b HS_ab HS_ib HS_ra HS_rb HS_rab HS_bo
  have HS_a := m_a; have HS_b := m_b; have HS_ab := m_ab; have HS_ib := m_ib; have HS_ra := m_ra; have HS_rb := m_rb; have HS_rab := m_rab; have HS_bo := m_bo; have HS_mi := m_mi; have HB := mB
  clear mB m_a m_b m_ab m_ib m_ra m_rb m_rab m_bo m_mi
  obtain ⟨Aa_, ca_, Ka_, La_, Ca_⟩ := HS_a.out
  have q0a_ := (blk_cell Ka_ 0).trans rfl; have q1a_ := (blk_cell Ka_ 1).trans rfl; have HCa_ := Aside0.mk Ca_
  clear Ka_ Ca_
  obtain ⟨Arb_, crb_, Krb_, Lrb_, Crb_⟩ := HS_rb.out
  have q0rb_ := (blk_cell Krb_ 0).trans rfl; have q1rb_ := (blk_cell Krb_ 1).trans rfl; have HCrb_ := Aside0.mk Crb_
  clear Krb_ Crb_
  gi_wp2_with fail
  refine ⟨trivial, ?_⟩; gi_at_call 54
  refine (callsIn_wide.2 (slopelaw3_inter.calls k (N : Int) (N : Int) (fun k_ => k_ < _) _ _ a (N : Int) (fun k_ => k_ < _) _ _ rb _ _ _ _ (Kd.V_mk La_ (Kd.C_F (Kd.heap_int .u64) HCa_.out)) (Kd.V_mk Lrb_ (Kd.C_F (Kd.heap_int .u64) HCrb_.out)) h_mb.out)).mono ?_
  rintro e w31 ⟨v, rfl, ho, hb⟩
  clear q0a_ q1a_ La_ HCa_
  clear q0rb_ q1rb_ Lrb_ HCrb_
  clear HS_rb
  clear h_mb
  obtain ⟨A_mb, c_mb, rfl⟩ := Kd.R_slice ho
  have m_a := Aside0.mk ((HS_a.out.below hb).alloc (.cells #[.int .i64 (N : Int), .slice A_mb mb.length c_mb] 26 (0, 0)))
  have m_b := Aside0.mk ((HS_b.out.below hb).alloc (.cells #[.int .i64 (N : Int), .slice A_mb mb.length c_mb] 26 (0, 0)))
  have m_ab := Aside0.mk ((HS_ab.out.below hb).alloc (.cells #[.int .i64 (N : Int), .slice A_mb mb.length c_mb] 26 (0, 0)))
  have m_ib := Aside0.mk ((HS_ib.out.below hb).alloc (.cells #[.int .i64 (N : Int), .slice A_mb mb.length c_mb] 26 (0, 0)))
  have m_ra := Aside0.mk ((HS_ra.out.below hb).alloc (.cells #[.int .i64 (N : Int), .slice A_mb mb.length c_mb] 26 (0, 0)))
  have m_rab := Aside0.mk ((HS_rab.out.below hb).alloc (.cells #[.int .i64 (N : Int), .slice A_mb mb.length c_mb] 26 (0, 0)))
  have m_bo := Aside0.mk ((HS_bo.out.below hb).alloc (.cells #[.int .i64 (N : Int), .slice A_mb mb.length c_mb] 26 (0, 0)))
  have m_mi := Aside0.mk ((HS_mi.out.below hb).alloc (.cells #[.int .i64 (N : Int), .slice A_mb mb.length c_mb] 26 (0, 0)))
  have m_mb := Aside0.mk (Has.new (n := (N : Int)) ho)
  have mB := Aside0.mk (below_alloc (below_step HB.out hb) (.cells #[.int .i64 (N : Int), .slice A_mb mb.length c_mb] 26 (0, 0)))
  clear HB hb ho HS_a HS_b HS_ab HS_ib HS_ra HS_rab HS_bo HS_mi
  have HS_a := m_a; have HS_b := m_b; have HS_ab := m_ab; have HS_ib := m_ib; have HS_ra := m_ra; have HS_rab := m_rab; have HS_bo := m_bo; have HS_mi := m_mi; have HS_mb := m_mb; have HB := mB
  clear mB m_a m_b m_ab m_ib m_ra m_rab m_bo m_mi m_mb
  obtain ⟨Aa_, ca_, Ka_, La_, Ca_⟩ := HS_a.out
  have q0a_ := (blk_cell Ka_ 0).trans rfl; have q1a_ := (blk_cell Ka_ 1).trans rfl; have HCa_ := Aside0.mk Ca_
  clear Ka_ Ca_
  obtain ⟨Ab_, cb_, Kb_, Lb_, Cb_⟩ := HS_b.out
  have q0b_ := (blk_cell Kb_ 0).trans rfl; have q1b_ := (blk_cell Kb_ 1).trans rfl; have HCb_ := Aside0.mk Cb_
  clear Kb_ Cb_
  gi_wp2_with fail
  refine ⟨trivial, ?_⟩; gi_at_call 43
  refine (callsIn_wide.2 (bitset_Differ.calls k (N : Int) _ _ a (N : Int) _ _ b _ _ _ _ HCa_.out La_ HCb_.out Lb_ h_di.out)).mono ?_
  rintro e w32 ⟨v, rfl, ho, hb⟩
  clear q0a_ q1a_ La_ HCa_
  clear q0b_ q1b_ Lb_ HCb_
  clear h_di
  obtain ⟨A_di, c_di, rfl⟩ := Kd.R_slice ho
  have m_a := Aside0.mk ((HS_a.out.below hb).alloc (.cells #[.int .i64 (N : Int), .slice A_di di.length c_di] 26 (0, 0)))
  have m_b := Aside0.mk ((HS_b.out.below hb).alloc (.cells #[.int .i64 (N : Int), .slice A_di di.length c_di] 26 (0, 0)))
  have m_ab := Aside0.mk ((HS_ab.out.below hb).alloc (.cells #[.int .i64 (N : Int), .slice A_di di.length c_di] 26 (0, 0)))
  have m_ib := Aside0.mk ((HS_ib.out.below hb).alloc (.cells #[.int .i64 (N : Int), .slice A_di di.length c_di] 26 (0, 0)))
  have m_ra := Aside0.mk ((HS_ra.out.below hb).alloc (.cells #[.int .i64 (N : Int), .slice A_di di.length c_di] 26 (0, 0)))
  have m_rab := Aside0.mk ((HS_rab.out.below hb).alloc (.cells #[.int .i64 (N : Int), .slice A_di di.length c_di] 26 (0, 0)))
  have m_bo := Aside0.mk ((HS_bo.out.below hb).alloc (.cells #[.int .i64 (N : Int), .slice A_di di.length c_di] 26 (0, 0)))
  have m_mi := Aside0.mk ((HS_mi.out.below hb).alloc (.cells #[.int .i64 (N : Int), .slice A_di di.length c_di] 26 (0, 0)))
  have m_mb := Aside0.mk ((HS_mb.out.below hb).alloc (.cells #[.int .i64 (N : Int), .slice A_di di.length c_di] 26 (0, 0)))
  have m_di := Aside0.mk (Has.new (n := (N : Int)) ho)
  have mB := Aside0.mk (below_alloc (below_step HB.out hb) (.cells #[.int .i64 (N : Int), .slice A_di di.length c_di] 26 (0, 0)))
  clear HB hb ho HS_a HS_b HS_ab HS_ib HS_ra HS_rab HS_bo HS_mi HS_mb
  have HS_a := m_a; have HS_b := m_b; have HS_ab := m_ab; have HS_ib := m_ib; have HS_ra := m_ra; have HS_rab := m_rab; have HS_bo := m_bo; have HS_mi := m_mi; have HS_mb := m_mb; have HS_di := m_di; have HB := mB
  clear mB m_a m_b m_ab m_ib m_ra m_rab m_bo m_mi m_mb m_di
  obtain ⟨Aab_, cab_, Kab_, Lab_, Cab_⟩ := HS_ab.out
  have q0ab_ := (blk_cell Kab_ 0).trans rfl; have q1ab_ := (blk_cell Kab_ 1).trans rfl; have HCab_ := Aside0.mk Cab_
  clear Kab_ Cab_
  obtain ⟨Aib_, cib_, Kib_, Lib_, Cib_⟩ := HS_ib.out
  have q0ib_ := (blk_cell Kib_ 0).trans rfl; have q1ib_ := (blk_cell Kib_ 1).trans rfl; have HCib_ := Aside0.mk Cib_
  clear Kib_ Cib_
  gi_wp2_with fail
  refine ⟨trivial, ?_⟩; gi_at_call 41
  refine (callsIn_wide.2 (bitset_Minus.calls k (N : Int) _ _ ab (N : Int) _ _ ib _ _ _ _ HCab_.out Lab_ HCib_.out Lib_ h_du.out)).mono ?_
  rintro e w33 ⟨v, rfl, ho, hb⟩
  clear q0ab_ q1ab_ Lab_ HCab_
  clear q0ib_ q1ib_ Lib_ HCib_
  clear h_du
  obtain ⟨A_du, c_du, rfl⟩ := Kd.R_slice ho
  have m_a := Aside0.mk ((HS_a.out.below hb).alloc (.cells #[.int .i64 (N : Int), .slice A_du du.length c_du] 26 (0, 0)))
  have m_b := Aside0.mk ((HS_b.out.below hb).alloc (.cells #[.int .i64 (N : Int), .slice A_du du.length c_du] 26 (0, 0)))
  have m_ab := Aside0.mk ((HS_ab.out.below hb).alloc (.cells #[.int .i64 (N : Int), .slice A_du du.length c_du] 26 (0, 0)))
  have m_ib := Aside0.mk ((HS_ib.out.below hb).alloc (.cells #[.int .i64 (N : Int), .slice A_du du.length c_du] 26 (0, 0)))
  have m_ra := Aside0.mk ((HS_ra.out.below hb).alloc (.cells #[.int .i64 (N : Int), .slice A_du du.length c_du] 26 (0, 0)))
  have m_rab := Aside0.mk ((HS_rab.out.below hb).alloc (.cells #[.int .i64 (N : Int), .slice A_du du.length c_du] 26 (0, 0)))
  have m_bo := Aside0.mk ((HS_bo.out.below hb).alloc (.cells #[.int .i64 (N : Int), .slice A_du du.length c_du] 26 (0, 0)))
  have m_mi := Aside0.mk ((HS_mi.out.below hb).alloc (.cells #[.int .i64 (N : Int), .slice A_du du.length c_du] 26 (0, 0)))
  have m_mb := Aside0.mk ((HS_mb.out.below hb).alloc (.cells #[.int .i64 (N : Int), .slice A_du du.length c_du] 26 (0, 0)))
  have m_di := Aside0.mk ((HS_di.out.below hb).alloc (.cells #[.int .i64 (N : Int), .slice A_du du.length c_du] 26 (0, 0)))
  have m_du := Aside0.mk (Has.new (n := (N : Int)) ho)
  have mB := Aside0.mk (below_alloc (below_step HB.out hb) (.cells #[.int .i64 (N : Int), .slice A_du du.length c_du] 26 (0, 0)))
  clear HB hb ho HS_a HS_b HS_ab HS_ib HS_ra HS_rab HS_bo HS_mi HS_mb HS_di
  have HS_a := m_a; have HS_b := m_b; have HS_ab := m_ab; have HS_ib := m_ib; have HS_ra := m_ra; have HS_rab := m_rab; have HS_bo := m_bo; have HS_mi := m_mi; have HS_mb := m_mb; have HS_di := m_di; have HS_du := m_du; have HB := mB
  clear mB m_a m_b m_ab m_ib m_ra m_rab m_bo m_mi m_mb m_di m_du
  gi_wp2_with fail
  refine ⟨trivial, ?_⟩; gi_at_call 19
  refine (callsIn_wide.2 (slopelaw3_num.calls 0 0 _ rfl)).mono ?_
  rintro e w34 ⟨rfl, hd⟩
  have hb := hd.below
  clear hd
  have m_a := Aside0.mk (HS_a.out.below hb)
  have m_b := Aside0.mk (HS_b.out.below hb)
  have m_ab := Aside0.mk (HS_ab.out.below hb)
  have m_ib := Aside0.mk (HS_ib.out.below hb)
  have m_ra := Aside0.mk (HS_ra.out.below hb)
  have m_rab := Aside0.mk (HS_rab.out.below hb)
  have m_bo := Aside0.mk (HS_bo.out.below hb)
  have m_mi := Aside0.mk (HS_mi.out.below hb)
  have m_mb := Aside0.mk (HS_mb.out.below hb)
  have m_di := Aside0.mk (HS_di.out.below hb)
  have m_du := Aside0.mk (HS_du.out.below hb)
  have mB := Aside0.mk (below_step HB.out hb)
  clear HB hb HS_a HS_b HS_ab HS_ib HS_ra HS_rab HS_bo HS_mi HS_mb HS_di HS_du
  have HS_a := m_a; have HS_b := m_b; have HS_ab := m_ab; have HS_ib := m_ib; have HS_ra := m_ra; have HS_rab := m_rab; have HS_bo := m_bo; have HS_mi := m_mi; have HS_mb := m_mb; have HS_di := m_di; have HS_du := m_du; have HB := mB
  clear mB m_a m_b m_ab m_ib m_ra m_rab m_bo m_mi m_mb m_di m_du
  gi_wp2_with fail
  refine ⟨trivial, ?_⟩; gi_at_call 19
  refine (callsIn_wide.2 (slopelaw3_num.calls 0 0 _ rfl)).mono ?_
  rintro e w35 ⟨rfl, hd⟩
  have hb := hd.below
  clear hd
  have m_a := Aside0.mk (HS_a.out.below hb)
  have m_b := Aside0.mk (HS_b.out.below hb)
  have m_ab := Aside0.mk (HS_ab.out.below hb)
  have m_ib := Aside0.mk (HS_ib.out.below hb)
  have m_ra := Aside0.mk (HS_ra.out.below hb)
  have m_rab := Aside0.mk (HS_rab.out.below hb)
  have m_bo := Aside0.mk (HS_bo.out.below hb)
  have m_mi := Aside0.mk (HS_mi.out.below hb)
  have m_mb := Aside0.mk (HS_mb.out.below hb)
  have m_di := Aside0.mk (HS_di.out.below hb)
  have m_du := Aside0.mk (HS_du.out.below hb)
  have mB := Aside0.mk (below_step HB.out hb)
  clear HB hb HS_a HS_b HS_ab HS_ib HS_ra HS_rab HS_bo HS_mi HS_mb HS_di HS_du
  have HS_a := m_a; have HS_b := m_b; have HS_ab := m_ab; have HS_ib := m_ib; have HS_ra := m_ra; have HS_rab := m_rab; have HS_bo := m_bo; have HS_mi := m_mi; have HS_mb := m_mb; have HS_di := m_di; have HS_du := m_du; have HB := mB
  clear mB m_a m_b m_ab m_ib m_ra m_rab m_bo m_mi m_mb m_di m_du
  gi_wp2_with fail
  refine ⟨trivial, ?_⟩; gi_at_call 19
  refine (callsIn_wide.2 (slopelaw3_num.calls 0 0 _ rfl)).mono ?_
  rintro e w36 ⟨rfl, hd⟩
  have hb := hd.below
  clear hd
  have m_a := Aside0.mk (HS_a.out.below hb)
  have m_b := Aside0.mk (HS_b.out.below hb)
  have m_ab := Aside0.mk (HS_ab.out.below hb)
  have m_ib := Aside0.mk (HS_ib.out.below hb)
  have m_ra := Aside0.mk (HS_ra.out.below hb)
  have m_rab := Aside0.mk (HS_rab.out.below hb)
  have m_bo := Aside0.mk (HS_bo.out.below hb)
  have m_mi := Aside0.mk (HS_mi.out.below hb)
  have m_mb := Aside0.mk (HS_mb.out.below hb)
  have m_di := Aside0.mk (HS_di.out.below hb)
  have m_du := Aside0.mk (HS_du.out.below hb)
  have mB := Aside0.mk (below_step HB.out hb)
  clear HB hb HS_a HS_b HS_ab HS_ib HS_ra HS_rab HS_bo HS_mi HS_mb HS_di HS_du
  have HS_a := m_a; have HS_b := m_b; have HS_ab := m_ab; have HS_ib := m_ib; have HS_ra := m_ra; have HS_rab := m_rab; have HS_bo := m_bo; have HS_mi := m_mi; have HS_mb := m_mb; have HS_di := m_di; have HS_du := m_du; have HB := mB
  clear mB m_a m_b m_ab m_ib m_ra m_rab m_bo m_mi m_mb m_di m_du
  gi_wp2_with fail
  refine ⟨trivial, ?_⟩; gi_at_call 19
  refine (callsIn_wide.2 (slopelaw3_num.calls 0 0 _ rfl)).mono ?_
  rintro e w37 ⟨rfl, hd⟩
  have hb := hd.below
  clear hd
  have m_a := Aside0.mk (HS_a.out.below hb)
  have m_b := Aside0.mk (HS_b.out.below hb)
  have m_ab := Aside0.mk (HS_ab.out.below hb)
  have m_ib := Aside0.mk (HS_ib.out.below hb)
  have m_ra := Aside0.mk (HS_ra.out.below hb)
  have m_rab := Aside0.mk (HS_rab.out.below hb)
  have m_bo := Aside0.mk (HS_bo.out.below hb)
  have m_mi := Aside0.mk (HS_mi.out.below hb)
  have m_mb := Aside0.mk (HS_mb.out.below hb)
  have m_di := Aside0.mk (HS_di.out.below hb)
  have m_du := Aside0.mk (HS_du.out.below hb)
  have mB := Aside0.mk (below_step HB.out hb)
  clear HB hb HS_a HS_b HS_ab HS_ib HS_ra HS_rab HS_bo HS_mi HS_mb HS_di HS_du
  have HS_a := m_a; have HS_b := m_b; have HS_ab := m_ab; have HS_ib := m_ib; have HS_ra := m_ra; have HS_rab := m_rab; have HS_bo := m_bo; have HS_mi := m_mi; have HS_mb := m_mb; have HS_di := m_di; have HS_du := m_du; have HB := mB
  clear mB m_a m_b m_ab m_ib m_ra m_rab m_bo m_mi m_mb m_di m_du
  gi_wp2_with fail
  refine ⟨trivial, ?_⟩; gi_at_call 19
  refine (callsIn_wide.2 (slopelaw3_num.calls 0 0 _ rfl)).mono ?_
  rintro e w38 ⟨rfl, hd⟩
  have hb := hd.below
  clear hd
  have m_a := Aside0.mk (HS_a.out.below hb)
  have m_b := Aside0.mk (HS_b.out.below hb)
  have m_ab := Aside0.mk (HS_ab.out.below hb)
  have m_ib := Aside0.mk (HS_ib.out.below hb)
  have m_ra := Aside0.mk (HS_ra.out.below hb)
  have m_rab := Aside0.mk (HS_rab.out.below hb)
  have m_bo := Aside0.mk (HS_bo.out.below hb)
  have m_mi := Aside0.mk (HS_mi.out.below hb)
  have m_mb := Aside0.mk (HS_mb.out.below hb)
  have m_di := Aside0.mk (HS_di.out.below hb)
  have m_du := Aside0.mk (HS_du.out.below hb)
  have mB := Aside0.mk (below_step HB.out hb)
  clear HB hb HS_a HS_b HS_ab HS_ib HS_ra HS_rab HS_bo HS_mi HS_mb HS_di HS_du
  have HS_a := m_a; have HS_b := m_b; have HS_ab := m_ab; have HS_ib := m_ib; have HS_ra := m_ra; have HS_rab := m_rab; have HS_bo := m_bo; have HS_mi := m_mi; have HS_mb := m_mb; have HS_di := m_di; have HS_du := m_du; have HB := mB
  clear mB m_a m_b m_ab m_ib m_ra m_rab m_bo m_mi m_mb m_di m_du
  gi_wp2_with fail
  refine ⟨trivial, ?_⟩; gi_at_call 19
  refine (callsIn_wide.2 (slopelaw3_num.calls 0 0 _ rfl)).mono ?_
  rintro e w39 ⟨rfl, hd⟩
  have hb := hd.below
  clear hd
  have m_a := Aside0.mk (HS_a.out.below hb)
  have m_b := Aside0.mk (HS_b.out.below hb)
  have m_ab := Aside0.mk (HS_ab.out.below hb)
  have m_ib := Aside0.mk (HS_ib.out.below hb)
  have m_ra := Aside0.mk (HS_ra.out.below hb)
  have m_rab := Aside0.mk (HS_rab.out.below hb)
  have m_bo := Aside0.mk (HS_bo.out.below hb)
  have m_mi := Aside0.mk (HS_mi.out.below hb)
  have m_mb := Aside0.mk (HS_mb.out.below hb)
  have m_di := Aside0.mk (HS_di.out.below hb)
  have m_du := Aside0.mk (HS_du.out.below hb)
  have mB := Aside0.mk (below_step HB.out hb)
  clear HB hb HS_a HS_b HS_ab HS_ib HS_ra HS_rab HS_bo HS_mi HS_mb HS_di HS_du
  have HS_a := m_a; have HS_b := m_b; have HS_ab := m_ab; have HS_ib := m_ib; have HS_ra := m_ra; have HS_rab := m_rab; have HS_bo := m_bo; have HS_mi := m_mi; have HS_mb := m_mb; have HS_di := m_di; have HS_du := m_du; have HB := mB
  clear mB m_a m_b m_ab m_ib m_ra m_rab m_bo m_mi m_mb m_di m_du
  obtain ⟨Arab_, crab_, Krab_, Lrab_, Crab_⟩ := HS_rab.out
  have q0rab_ := (blk_cell Krab_ 0).trans rfl; have q1rab_ := (blk_cell Krab_ 1).trans rfl; have HCrab_ := Aside0.mk Crab_
  clear Krab_ Crab_
  obtain ⟨Abo_, cbo_, Kbo_, Lbo_, Cbo_⟩ := HS_bo.out
  have q0bo_ := (blk_cell Kbo_ 0).trans rfl; have q1bo_ := (blk_cell Kbo_ 1).trans rfl; have HCbo_ := Aside0.mk Cbo_
  clear Kbo_ Cbo_
  gi_wp2_with fail
  refine ⟨trivial, ?_⟩; gi_at_call 18
  refine (callsIn_wide.2 (slopelaw3_same.calls k (N : Int) _ _ rab (N : Int) _ _ bo _ _ HCrab_.out Lrab_ HCbo_.out Lbo_ t_8.out)).mono ?_
  rintro e w40 ⟨rfl, hb⟩
  clear q0rab_ q1rab_ Lrab_ HCrab_
  clear q0bo_ q1bo_ Lbo_ HCbo_
  clear HS_rab HS_bo
  clear t_8
  have m_a := Aside0.mk (HS_a.out.below hb)
  have m_b := Aside0.mk (HS_b.out.below hb)
  have m_ab := Aside0.mk (HS_ab.out.below hb)
  have m_ib := Aside0.mk (HS_ib.out.below hb)
  have m_ra := Aside0.mk (HS_ra.out.below hb)
  have m_mi := Aside0.mk (HS_mi.out.below hb)
  have m_mb := Aside0.mk (HS_mb.out.below hb)
  have m_di := Aside0.mk (HS_di.out.below hb)
  have m_du := Aside0.mk (HS_du.out.below hb)
  have mB := Aside0.mk (below_step HB.out hb)
  clear HB hb HS_a HS_b HS_ab HS_ib HS_ra HS_mi HS_mb HS_di HS_du
  have HS_a := m_a; have HS_b := m_b; have HS_ab := m_ab; have HS_ib := m_ib; have HS_ra := m_ra; have HS_mi := m_mi; have HS_mb := m_mb; have HS_di := m_di; have HS_du := m_du; have HB := mB
  clear mB m_a m_b m_ab m_ib m_ra m_mi m_mb m_di m_du
  obtain ⟨Ami_, cmi_, Kmi_, Lmi_, Cmi_⟩ := HS_mi.out
  have q0mi_ := (blk_cell Kmi_ 0).trans rfl; have q1mi_ := (blk_cell Kmi_ 1).trans rfl; have HCmi_ := Aside0.mk Cmi_
  clear Kmi_ Cmi_
  obtain ⟨Amb_, cmb_, Kmb_, Lmb_, Cmb_⟩ := HS_mb.out
  have q0mb_ := (blk_cell Kmb_ 0).trans rfl; have q1mb_ := (blk_cell Kmb_ 1).trans rfl; have HCmb_ := Aside0.mk Cmb_
  clear Kmb_ Cmb_
  gi_wp2_with fail
  refine ⟨trivial, ?_⟩; gi_at_call 18
  refine (callsIn_wide.2 (slopelaw3_same.calls k (N : Int) _ _ mi (N : Int) _ _ mb _ _ HCmi_.out Lmi_ HCmb_.out Lmb_ t_9.out)).mono ?_
  rintro e w41 ⟨rfl, hb⟩
  clear q0mi_ q1mi_ Lmi_ HCmi_
  clear q0mb_ q1mb_ Lmb_ HCmb_
  clear HS_mb
  clear t_9
  have m_a := Aside0.mk (HS_a.out.below hb)
  have m_b := Aside0.mk (HS_b.out.below hb)
  have m_ab := Aside0.mk (HS_ab.out.below hb)
  have m_ib := Aside0.mk (HS_ib.out.below hb)
  have m_ra := Aside0.mk (HS_ra.out.below hb)
  have m_mi := Aside0.mk (HS_mi.out.below hb)
  have m_di := Aside0.mk (HS_di.out.below hb)
  have m_du := Aside0.mk (HS_du.out.below hb)
  have mB := Aside0.mk (below_step HB.out hb)
  clear HB hb HS_a HS_b HS_ab HS_ib HS_ra HS_mi HS_di HS_du
  have HS_a := m_a; have HS_b := m_b; have HS_ab := m_ab; have HS_ib := m_ib; have HS_ra := m_ra; have HS_mi := m_mi; have HS_di := m_di; have HS_du := m_du; have HB := mB
  clear mB m_a m_b m_ab m_ib m_ra m_mi m_di m_du
  obtain ⟨Adi_, cdi_, Kdi_, Ldi_, Cdi_⟩ := HS_di.out
  have q0di_ := (blk_cell Kdi_ 0).trans rfl; have q1di_ := (blk_cell Kdi_ 1).trans rfl; have HCdi_ := Aside0.mk Cdi_
  clear Kdi_ Cdi_
  obtain ⟨Adu_, cdu_, Kdu_, Ldu_, Cdu_⟩ := HS_du.out
  have q0du_ := (blk_cell Kdu_ 0).trans rfl; have q1du_ := (blk_cell Kdu_ 1).trans rfl; have HCdu_ := Aside0.mk Cdu_
  clear Kdu_ Cdu_
  gi_wp2_with fail
  refine ⟨trivial, ?_⟩; gi_at_call 18
  refine (callsIn_wide.2 (slopelaw3_same.calls k (N : Int) _ _ di (N : Int) _ _ du _ _ HCdi_.out Ldi_ HCdu_.out Ldu_ t_10.out)).mono ?_
  rintro e w42 ⟨rfl, hb⟩
  clear q0di_ q1di_ Ldi_ HCdi_
  clear q0du_ q1du_ Ldu_ HCdu_
  clear HS_di HS_du
  clear t_10
  have m_a := Aside0.mk (HS_a.out.below hb)
  have m_b := Aside0.mk (HS_b.out.below hb)
  have m_ab := Aside0.mk (HS_ab.out.below hb)
  have m_ib := Aside0.mk (HS_ib.out.below hb)
  have m_ra := Aside0.mk (HS_ra.out.below hb)
  have m_mi := Aside0.mk (HS_mi.out.below hb)
  have mB := Aside0.mk (below_step HB.out hb)
  clear HB hb HS_a HS_b HS_ab HS_ib HS_ra HS_mi
  have HS_a := m_a; have HS_b := m_b; have HS_ab := m_ab; have HS_ib := m_ib; have HS_ra := m_ra; have HS_mi := m_mi; have HB := mB
  clear mB m_a m_b m_ab m_ib m_ra m_mi
  obtain ⟨Aa_, ca_, Ka_, La_, Ca_⟩ := HS_a.out
  have q0a_ := (blk_cell Ka_ 0).trans rfl; have q1a_ := (blk_cell Ka_ 1).trans rfl; have HCa_ := Aside0.mk Ca_
  clear Ka_ Ca_
  obtain ⟨Ara_, cra_, Kra_, Lra_, Cra_⟩ := HS_ra.out
  have q0ra_ := (blk_cell Kra_ 0).trans rfl; have q1ra_ := (blk_cell Kra_ 1).trans rfl; have HCra_ := Aside0.mk Cra_
  clear Kra_ Cra_
  gi_wp2_with fail
  refine ⟨trivial, ?_⟩; gi_at_call 47
  refine (callsIn_wide.2 (bitset_Disjoint.calls k (N : Int) _ _ a (N : Int) _ _ ra _ _ HCa_.out La_ HCra_.out Lra_ t_11.out)).mono ?_
  rintro e w43 ⟨rfl, hb⟩
  clear q0a_ q1a_ La_ HCa_
  clear q0ra_ q1ra_ Lra_ HCra_
  clear t_11
  have m_a := Aside0.mk (HS_a.out.below hb)
  have m_b := Aside0.mk (HS_b.out.below hb)
  have m_ab := Aside0.mk (HS_ab.out.below hb)
  have m_ib := Aside0.mk (HS_ib.out.below hb)
  have m_ra := Aside0.mk (HS_ra.out.below hb)
  have m_mi := Aside0.mk (HS_mi.out.below hb)
  have mB := Aside0.mk (below_step HB.out hb)
  clear HB hb HS_a HS_b HS_ab HS_ib HS_ra HS_mi
  have HS_a := m_a; have HS_b := m_b; have HS_ab := m_ab; have HS_ib := m_ib; have HS_ra := m_ra; have HS_mi := m_mi; have HB := mB
  clear mB m_a m_b m_ab m_ib m_ra m_mi
  obtain ⟨Ami_, cmi_, Kmi_, Lmi_, Cmi_⟩ := HS_mi.out
  have q0mi_ := (blk_cell Kmi_ 0).trans rfl; have q1mi_ := (blk_cell Kmi_ 1).trans rfl; have HCmi_ := Aside0.mk Cmi_
  clear Kmi_ Cmi_
  obtain ⟨Ab_, cb_, Kb_, Lb_, Cb_⟩ := HS_b.out
  have q0b_ := (blk_cell Kb_ 0).trans rfl; have q1b_ := (blk_cell Kb_ 1).trans rfl; have HCb_ := Aside0.mk Cb_
  clear Kb_ Cb_
  gi_wp2_with fail
  refine ⟨trivial, ?_⟩; gi_at_call 47
  refine (callsIn_wide.2 (bitset_Disjoint.calls k (N : Int) _ _ mi (N : Int) _ _ b _ _ HCmi_.out Lmi_ HCb_.out Lb_ t_12.out)).mono ?_
  rintro e w44 ⟨rfl, hb⟩
  clear q0mi_ q1mi_ Lmi_ HCmi_
  clear q0b_ q1b_ Lb_ HCb_
  clear HS_mi
  clear t_12
  have m_a := Aside0.mk (HS_a.out.below hb)
  have m_b := Aside0.mk (HS_b.out.below hb)
  have m_ab := Aside0.mk (HS_ab.out.below hb)
  have m_ib := Aside0.mk (HS_ib.out.below hb)
  have m_ra := Aside0.mk (HS_ra.out.below hb)
  have mB := Aside0.mk (below_step HB.out hb)
  clear HB hb HS_a HS_b HS_ab HS_ib HS_ra
  have HS_a := m_a; have HS_b := m_b; have HS_ab := m_ab; have HS_ib := m_ib; have HS_ra := m_ra; have HB := mB
  clear mB m_a m_b m_ab m_ib m_ra
  gi_wp2_with fail
  obtain ⟨Aab_, cab_, Kab_, Lab_, Cab_⟩ := HS_ab.out
  have Kab4 := blk_drew Kab_; have Cab4 := Aside0.mk (Kd.C_drew Cab_); clear Kab_ Cab_ HS_ab
  obtain ⟨Aib_, cib_, Kib_, Lib_, Cib_⟩ := HS_ib.out
  have Kib4 := blk_drew Kib_; have Cib4 := Aside0.mk (Kd.C_drew Cib_); clear Kib_ Cib_ HS_ib
  obtain ⟨Aa_, ca_, Ka_, La_, Ca_⟩ := HS_a.out
  have Ka4 := blk_drew Ka_; have Ca4 := Aside0.mk (Kd.C_drew Ca_); clear Ka_ Ca_ HS_a
  obtain ⟨Ab_, cb_, Kb_, Lb_, Cb_⟩ := HS_b.out
  have Kb4 := blk_drew Kb_; have Cb4 := Aside0.mk (Kd.C_drew Cb_); clear Kb_ Cb_ HS_b
  obtain ⟨Ara_, cra_, Kra_, Lra_, Cra_⟩ := HS_ra.out
  have Kra4 := blk_drew Kra_; have Cra4 := Aside0.mk (Kd.C_drew Cra_); clear Kra_ Cra_ HS_ra
  have hB4 := Aside0.mk (below_drew1 HB.out); clear HB; have HB := hB4; clear hB4
  have E1 := Aside0.mk (show wrap64 ((q_ab : Int) + (q_ib : Int)) = ((q_a + q_b : Nat) : Int) from by rw [w64_nat (by omega) (by omega)]; omega)
  have E2 := Aside0.mk (show wrap64 ((q_a : Int) + (q_b : Int)) = ((q_a + q_b : Nat) : Int) from by rw [w64_nat (by omega) (by omega)]; omega)
  have E3 := Aside0.mk (show wrap64 ((q_a : Int) + (q_ra : Int)) = (N : Int) from by rw [w64_nat (by omega) (by omega)]; omega)
  clear e_1 e_2 e_3
  refine wpIn_wide.2 ?_
  refine start_ (n := 21) (S := fun w' => w'.cell? ⟨w8.heap.size, 0, none⟩ = some (.int .i64 (N : Int)) ∧ w'.cell? ⟨w8.heap.size, 1, none⟩ = some (.slice Aab_ ab.length cab_) ∧ w'.cell? ⟨w14.heap.size, 0, none⟩ = some (.int .i64 (N : Int)) ∧ w'.cell? ⟨w14.heap.size, 1, none⟩ = some (.slice Aib_ ib.length cib_) ∧ w'.cell? ⟨w2.heap.size, 0, none⟩ = some (.int .i64 (N : Int)) ∧ w'.cell? ⟨w2.heap.size, 1, none⟩ = some (.slice Aa_ a.length ca_) ∧ w'.cell? ⟨w3.heap.size, 0, none⟩ = some (.int .i64 (N : Int)) ∧ w'.cell? ⟨w3.heap.size, 1, none⟩ = some (.slice Ab_ b.length cb_) ∧ w'.cell? ⟨w26.heap.size, 0, none⟩ = some (.int .i64 (N : Int)) ∧ w'.cell? ⟨w26.heap.size, 1, none⟩ = some (.slice Ara_ ra.length cra_)) (ds := []) #[false, false, false, false, false, false, false, false, false, false, false, false, false, false, false, false, false, false, false, false, false] (by kernel_rfl) (by kernel_rfl) rfl ⟨(blk_cell Kab4 0).trans rfl, (blk_cell Kab4 1).trans rfl, (blk_cell Kib4 0).trans rfl, (blk_cell Kib4 1).trans rfl, (blk_cell Ka4 0).trans rfl, (blk_cell Ka4 1).trans rfl, (blk_cell Kb4 0).trans rfl, (blk_cell Kb4 1).trans rfl, (blk_cell Kra4 0).trans rfl, (blk_cell Kra4 1).trans rfl⟩ (fun hHeld => ?_)
  clear Kab4 Kib4 Ka4 Kb4 Kra4
  generalize w44.drew = W4 at Cab4 Cib4 Ca4 Cb4 Cra4 HB hHeld ⊢
  refine take_ (i := 0) (N := some 345) (v := ?_) (a' := ?_) #[true, false, false, false, false, false, false, false, false, false, false, false, false, false, false, false, false, false, false, false, false] rfl rfl (by kernel_rfl) (fun _ _ _ h => h) (Or.inl ⟨by rfl, ?_⟩) hHeld ?_ ?_
  rotate_left
  · rintro w' ⟨s0, s1, s2, s3, s4, s5, s6, s7, s8, s9⟩
    go_simp
    with_reducible rfl
  rotate_left
  · simp only [Act.put, List.setIfInBounds_toArray, List.set_cons_zero, List.set_cons_succ, i64_w, i32_w]
    rfl
  refine take_ (i := 2) (N := some 347) (v := ?_) (a' := ?_) #[true, false, true, false, false, false, false, false, false, false, false, false, false, false, false, false, false, false, false, false, false] rfl rfl (by kernel_rfl) (fun _ _ _ h => h) (Or.inl ⟨by rfl, ?_⟩) hHeld ?_ ?_
  rotate_left
  · rintro w' ⟨s0, s1, s2, s3, s4, s5, s6, s7, s8, s9⟩
    go_simp
    with_reducible rfl
  rotate_left
  · simp only [Act.put, List.setIfInBounds_toArray, List.set_cons_zero, List.set_cons_succ, i64_w, i32_w]
    rfl
  refine take_ (i := 5) (N := some 350) (v := ?_) (a' := ?_) #[true, false, true, false, false, true, false, false, false, false, false, false, false, false, false, false, false, false, false, false, false] rfl rfl (by kernel_rfl) (fun _ _ _ h => h) (Or.inl ⟨by rfl, ?_⟩) hHeld ?_ ?_
  rotate_left
  · rintro w' ⟨s0, s1, s2, s3, s4, s5, s6, s7, s8, s9⟩
    go_simp
    with_reducible rfl
  rotate_left
  · simp only [Act.put, List.setIfInBounds_toArray, List.set_cons_zero, List.set_cons_succ, i64_w, i32_w]
    rfl
  refine take_ (i := 7) (N := some 352) (v := ?_) (a' := ?_) #[true, false, true, false, false, true, false, true, false, false, false, false, false, false, false, false, false, false, false, false, false] rfl rfl (by kernel_rfl) (fun _ _ _ h => h) (Or.inl ⟨by rfl, ?_⟩) hHeld ?_ ?_
  rotate_left
  · rintro w' ⟨s0, s1, s2, s3, s4, s5, s6, s7, s8, s9⟩
    go_simp
    with_reducible rfl
  rotate_left
  · simp only [Act.put, List.setIfInBounds_toArray, List.set_cons_zero, List.set_cons_succ, i64_w, i32_w]
    rfl
  refine one_ (i := 1) (N := some 346) #[true, true, true, false, false, true, false, true, false, false, false, false, false, false, false, false, false, false, false, false, false] rfl rfl (by kernel_rfl) (by decide) (fun K hK => ?_)
  refine goes_ Try.func52 (by kernel_rfl) rfl #[.agg #[.int .i64 (N : Int), .slice Aab_ ab.length cab_]] (by rfl) rfl rfl (by (try simp only [List.map_toArray, List.map_cons, List.map_nil]); first | done | rfl) ?_
  refine (bitset_Count.calls k (N : Int) _ _ ab _ _ Cab4.out Lab_ n_ab.out).mono ?_
  rintro e w45 ⟨rfl, hb⟩
  refine ⟨_, rfl, ?_⟩
  have m_ab := Aside0.mk (Kd.C_below Cab4.out hb)
  have m_ib := Aside0.mk (Kd.C_below Cib4.out hb)
  have m_a := Aside0.mk (Kd.C_below Ca4.out hb)
  have m_b := Aside0.mk (Kd.C_below Cb4.out hb)
  have m_ra := Aside0.mk (Kd.C_below Cra4.out hb)
  have mB := Aside0.mk (below_step HB.out hb)
  clear HB Cab4 Cib4 Ca4 Cb4 Cra4
  have Cab4 := m_ab; have Cib4 := m_ib; have Ca4 := m_a; have Cb4 := m_b; have Cra4 := m_ra; have HB := mB
  clear mB m_ab m_ib m_a m_b m_ra
  refine hK.out _ _ ⟨(hb.cell (World.block_lt_of_cell? _ _ hHeld.1)).trans hHeld.1, (hb.cell (World.block_lt_of_cell? _ _ hHeld.2.1)).trans hHeld.2.1, (hb.cell (World.block_lt_of_cell? _ _ hHeld.2.2.1)).trans hHeld.2.2.1, (hb.cell (World.block_lt_of_cell? _ _ hHeld.2.2.2.1)).trans hHeld.2.2.2.1, (hb.cell (World.block_lt_of_cell? _ _ hHeld.2.2.2.2.1)).trans hHeld.2.2.2.2.1, (hb.cell (World.block_lt_of_cell? _ _ hHeld.2.2.2.2.2.1)).trans hHeld.2.2.2.2.2.1, (hb.cell (World.block_lt_of_cell? _ _ hHeld.2.2.2.2.2.2.1)).trans hHeld.2.2.2.2.2.2.1, (hb.cell (World.block_lt_of_cell? _ _ hHeld.2.2.2.2.2.2.2.1)).trans hHeld.2.2.2.2.2.2.2.1, (hb.cell (World.block_lt_of_cell? _ _ hHeld.2.2.2.2.2.2.2.2.1)).trans hHeld.2.2.2.2.2.2.2.2.1, (hb.cell (World.block_lt_of_cell? _ _ hHeld.2.2.2.2.2.2.2.2.2)).trans hHeld.2.2.2.2.2.2.2.2.2⟩ (fun hHeld => ?_)
  clear hK K hb
  refine norm_ (a' := ?_) ?_ ?_
  rotate_left
  · show Act.put _ (some 346) _ = _
    simp only [Act.put, List.setIfInBounds_toArray, List.set_cons_zero, List.set_cons_succ, i64_w, i32_w]
    rfl
  refine one_ (i := 3) (N := some 348) #[true, true, true, true, false, true, false, true, false, false, false, false, false, false, false, false, false, false, false, false, false] rfl rfl (by kernel_rfl) (by decide) (fun K hK => ?_)
  refine goes_ Try.func52 (by kernel_rfl) rfl #[.agg #[.int .i64 (N : Int), .slice Aib_ ib.length cib_]] (by rfl) rfl rfl (by (try simp only [List.map_toArray, List.map_cons, List.map_nil]); first | done | rfl) ?_
  refine (bitset_Count.calls k (N : Int) _ _ ib _ _ Cib4.out Lib_ n_ib.out).mono ?_
  rintro e w46 ⟨rfl, hb⟩
  refine ⟨_, rfl, ?_⟩
  have m_ab := Aside0.mk (Kd.C_below Cab4.out hb)
  have m_ib := Aside0.mk (Kd.C_below Cib4.out hb)
  have m_a := Aside0.mk (Kd.C_below Ca4.out hb)
  have m_b := Aside0.mk (Kd.C_below Cb4.out hb)
  have m_ra := Aside0.mk (Kd.C_below Cra4.out hb)
  have mB := Aside0.mk (below_step HB.out hb)
  clear HB Cab4 Cib4 Ca4 Cb4 Cra4
  have Cab4 := m_ab; have Cib4 := m_ib; have Ca4 := m_a; have Cb4 := m_b; have Cra4 := m_ra; have HB := mB
  clear mB m_ab m_ib m_a m_b m_ra
  refine hK.out _ _ ⟨(hb.cell (World.block_lt_of_cell? _ _ hHeld.1)).trans hHeld.1, (hb.cell (World.block_lt_of_cell? _ _ hHeld.2.1)).trans hHeld.2.1, (hb.cell (World.block_lt_of_cell? _ _ hHeld.2.2.1)).trans hHeld.2.2.1, (hb.cell (World.block_lt_of_cell? _ _ hHeld.2.2.2.1)).trans hHeld.2.2.2.1, (hb.cell (World.block_lt_of_cell? _ _ hHeld.2.2.2.2.1)).trans hHeld.2.2.2.2.1, (hb.cell (World.block_lt_of_cell? _ _ hHeld.2.2.2.2.2.1)).trans hHeld.2.2.2.2.2.1, (hb.cell (World.block_lt_of_cell? _ _ hHeld.2.2.2.2.2.2.1)).trans hHeld.2.2.2.2.2.2.1, (hb.cell (World.block_lt_of_cell? _ _ hHeld.2.2.2.2.2.2.2.1)).trans hHeld.2.2.2.2.2.2.2.1, (hb.cell (World.block_lt_of_cell? _ _ hHeld.2.2.2.2.2.2.2.2.1)).trans hHeld.2.2.2.2.2.2.2.2.1, (hb.cell (World.block_lt_of_cell? _ _ hHeld.2.2.2.2.2.2.2.2.2)).trans hHeld.2.2.2.2.2.2.2.2.2⟩ (fun hHeld => ?_)
  clear hK K hb
  refine norm_ (a' := ?_) ?_ ?_
  rotate_left
  · show Act.put _ (some 348) _ = _
    simp only [Act.put, List.setIfInBounds_toArray, List.set_cons_zero, List.set_cons_succ, i64_w, i32_w]
    rfl
  refine pure_ (i := 4) (N := some 349) (v := ?_) (a' := ?_) #[true, true, true, true, true, true, false, true, false, false, false, false, false, false, false, false, false, false, false, false, false] rfl rfl (by kernel_rfl) (fun _ _ _ h => h) (Or.inl ⟨by rfl, ?_⟩) ?_ ?_
  rotate_left
  · intro w'
    go_simp
    rw [i64_w, E1.out]
  rotate_left
  · simp only [Act.put, List.setIfInBounds_toArray, List.set_cons_zero, List.set_cons_succ, i64_w, i32_w]
    rfl
  refine one_ (i := 6) (N := some 351) #[true, true, true, true, true, true, true, true, false, false, false, false, false, false, false, false, false, false, false, false, false] rfl rfl (by kernel_rfl) (by decide) (fun K hK => ?_)
  refine goes_ Try.func52 (by kernel_rfl) rfl #[.agg #[.int .i64 (N : Int), .slice Aa_ a.length ca_]] (by rfl) rfl rfl (by (try simp only [List.map_toArray, List.map_cons, List.map_nil]); first | done | rfl) ?_
  refine (bitset_Count.calls k (N : Int) _ _ a _ _ Ca4.out La_ n_a.out).mono ?_
  rintro e w47 ⟨rfl, hb⟩
  refine ⟨_, rfl, ?_⟩
  have m_ab := Aside0.mk (Kd.C_below Cab4.out hb)
  have m_ib := Aside0.mk (Kd.C_below Cib4.out hb)
  have m_a := Aside0.mk (Kd.C_below Ca4.out hb)
  have m_b := Aside0.mk (Kd.C_below Cb4.out hb)
  have m_ra := Aside0.mk (Kd.C_below Cra4.out hb)
  have mB := Aside0.mk (below_step HB.out hb)
  clear HB Cab4 Cib4 Ca4 Cb4 Cra4
  have Cab4 := m_ab; have Cib4 := m_ib; have Ca4 := m_a; have Cb4 := m_b; have Cra4 := m_ra; have HB := mB
  clear mB m_ab m_ib m_a m_b m_ra
  refine hK.out _ _ ⟨(hb.cell (World.block_lt_of_cell? _ _ hHeld.1)).trans hHeld.1, (hb.cell (World.block_lt_of_cell? _ _ hHeld.2.1)).trans hHeld.2.1, (hb.cell (World.block_lt_of_cell? _ _ hHeld.2.2.1)).trans hHeld.2.2.1, (hb.cell (World.block_lt_of_cell? _ _ hHeld.2.2.2.1)).trans hHeld.2.2.2.1, (hb.cell (World.block_lt_of_cell? _ _ hHeld.2.2.2.2.1)).trans hHeld.2.2.2.2.1, (hb.cell (World.block_lt_of_cell? _ _ hHeld.2.2.2.2.2.1)).trans hHeld.2.2.2.2.2.1, (hb.cell (World.block_lt_of_cell? _ _ hHeld.2.2.2.2.2.2.1)).trans hHeld.2.2.2.2.2.2.1, (hb.cell (World.block_lt_of_cell? _ _ hHeld.2.2.2.2.2.2.2.1)).trans hHeld.2.2.2.2.2.2.2.1, (hb.cell (World.block_lt_of_cell? _ _ hHeld.2.2.2.2.2.2.2.2.1)).trans hHeld.2.2.2.2.2.2.2.2.1, (hb.cell (World.block_lt_of_cell? _ _ hHeld.2.2.2.2.2.2.2.2.2)).trans hHeld.2.2.2.2.2.2.2.2.2⟩ (fun hHeld => ?_)
  clear hK K hb
  refine norm_ (a' := ?_) ?_ ?_
  rotate_left
  · show Act.put _ (some 351) _ = _
    simp only [Act.put, List.setIfInBounds_toArray, List.set_cons_zero, List.set_cons_succ, i64_w, i32_w]
    rfl
  refine one_ (i := 8) (N := some 353) #[true, true, true, true, true, true, true, true, true, false, false, false, false, false, false, false, false, false, false, false, false] rfl rfl (by kernel_rfl) (by decide) (fun K hK => ?_)
  refine goes_ Try.func52 (by kernel_rfl) rfl #[.agg #[.int .i64 (N : Int), .slice Ab_ b.length cb_]] (by rfl) rfl rfl (by (try simp only [List.map_toArray, List.map_cons, List.map_nil]); first | done | rfl) ?_
  refine (bitset_Count.calls k (N : Int) _ _ b _ _ Cb4.out Lb_ n_b.out).mono ?_
  rintro e w48 ⟨rfl, hb⟩
  refine ⟨_, rfl, ?_⟩
  have m_ab := Aside0.mk (Kd.C_below Cab4.out hb)
  have m_ib := Aside0.mk (Kd.C_below Cib4.out hb)
  have m_a := Aside0.mk (Kd.C_below Ca4.out hb)
  have m_b := Aside0.mk (Kd.C_below Cb4.out hb)
  have m_ra := Aside0.mk (Kd.C_below Cra4.out hb)
  have mB := Aside0.mk (below_step HB.out hb)
  clear HB Cab4 Cib4 Ca4 Cb4 Cra4
  have Cab4 := m_ab; have Cib4 := m_ib; have Ca4 := m_a; have Cb4 := m_b; have Cra4 := m_ra; have HB := mB
  clear mB m_ab m_ib m_a m_b m_ra
  refine hK.out _ _ ⟨(hb.cell (World.block_lt_of_cell? _ _ hHeld.1)).trans hHeld.1, (hb.cell (World.block_lt_of_cell? _ _ hHeld.2.1)).trans hHeld.2.1, (hb.cell (World.block_lt_of_cell? _ _ hHeld.2.2.1)).trans hHeld.2.2.1, (hb.cell (World.block_lt_of_cell? _ _ hHeld.2.2.2.1)).trans hHeld.2.2.2.1, (hb.cell (World.block_lt_of_cell? _ _ hHeld.2.2.2.2.1)).trans hHeld.2.2.2.2.1, (hb.cell (World.block_lt_of_cell? _ _ hHeld.2.2.2.2.2.1)).trans hHeld.2.2.2.2.2.1, (hb.cell (World.block_lt_of_cell? _ _ hHeld.2.2.2.2.2.2.1)).trans hHeld.2.2.2.2.2.2.1, (hb.cell (World.block_lt_of_cell? _ _ hHeld.2.2.2.2.2.2.2.1)).trans hHeld.2.2.2.2.2.2.2.1, (hb.cell (World.block_lt_of_cell? _ _ hHeld.2.2.2.2.2.2.2.2.1)).trans hHeld.2.2.2.2.2.2.2.2.1, (hb.cell (World.block_lt_of_cell? _ _ hHeld.2.2.2.2.2.2.2.2.2)).trans hHeld.2.2.2.2.2.2.2.2.2⟩ (fun hHeld => ?_)
  clear hK K hb
  refine norm_ (a' := ?_) ?_ ?_
  rotate_left
  · show Act.put _ (some 353) _ = _
    simp only [Act.put, List.setIfInBounds_toArray, List.set_cons_zero, List.set_cons_succ, i64_w, i32_w]
    rfl
  refine pure_ (i := 9) (N := some 354) (v := ?_) (a' := ?_) #[true, true, true, true, true, true, true, true, true, true, false, false, false, false, false, false, false, false, false, false, false] rfl rfl (by kernel_rfl) (fun _ _ _ h => h) (Or.inl ⟨by rfl, ?_⟩) ?_ ?_
  rotate_left
  · intro w'
    go_simp
    rw [i64_w, E2.out]
  rotate_left
  · simp only [Act.put, List.setIfInBounds_toArray, List.set_cons_zero, List.set_cons_succ, i64_w, i32_w]
    rfl
  refine pure_ (i := 10) (N := some 355) (v := ?_) (a' := ?_) #[true, true, true, true, true, true, true, true, true, true, true, false, false, false, false, false, false, false, false, false, false] rfl rfl (by kernel_rfl) (fun _ _ _ h => h) (Or.inl ⟨by rfl, ?_⟩) ?_ ?_
  rotate_left
  · intro w'
    go_simp
    with_reducible rfl
  rotate_left
  · simp only [Act.put, List.setIfInBounds_toArray, List.set_cons_zero, List.set_cons_succ, i64_w, i32_w]
    rfl
  refine pure_ (i := 11) (N := some 356) (v := ?_) (a' := ?_) #[true, true, true, true, true, true, true, true, true, true, true, true, false, false, false, false, false, false, false, false, false] rfl rfl (by kernel_rfl) (fun _ _ _ h => h) (Or.inl ⟨by rfl, ?_⟩) ?_ ?_
  rotate_left
  · intro w'
    go_simp
    with_reducible rfl
  rotate_left
  · simp only [Act.put, List.setIfInBounds_toArray, List.set_cons_zero, List.set_cons_succ, i64_w, i32_w]
    rfl
  refine take_ (i := 12) (N := some 357) (v := ?_) (a' := ?_) #[true, true, true, true, true, true, true, true, true, true, true, true, true, false, false, false, false, false, false, false, false] rfl rfl (by kernel_rfl) (fun _ _ _ h => h) (Or.inl ⟨by rfl, ?_⟩) hHeld ?_ ?_
  rotate_left
  · rintro w' ⟨s0, s1, s2, s3, s4, s5, s6, s7, s8, s9⟩
    go_simp
    with_reducible rfl
  rotate_left
  · simp only [Act.put, List.setIfInBounds_toArray, List.set_cons_zero, List.set_cons_succ, i64_w, i32_w]
    rfl
  refine take_ (i := 14) (N := some 359) (v := ?_) (a' := ?_) #[true, true, true, true, true, true, true, true, true, true, true, true, true, false, true, false, false, false, false, false, false] rfl rfl (by kernel_rfl) (fun _ _ _ h => h) (Or.inl ⟨by rfl, ?_⟩) hHeld ?_ ?_
  rotate_left
  · rintro w' ⟨s0, s1, s2, s3, s4, s5, s6, s7, s8, s9⟩
    go_simp
    with_reducible rfl
  rotate_left
  · simp only [Act.put, List.setIfInBounds_toArray, List.set_cons_zero, List.set_cons_succ, i64_w, i32_w]
    rfl
  refine pure_ (i := 17) (N := some 362) (v := ?_) (a' := ?_) #[true, true, true, true, true, true, true, true, true, true, true, true, true, false, true, false, false, true, false, false, false] rfl rfl (by kernel_rfl) (fun _ _ _ h => h) (Or.inl ⟨by rfl, ?_⟩) ?_ ?_
  rotate_left
  · intro w'
    go_simp
    with_reducible rfl
  rotate_left
  · simp only [Act.put, List.setIfInBounds_toArray, List.set_cons_zero, List.set_cons_succ, i64_w, i32_w]
    rfl
  refine one_ (i := 13) (N := some 358) #[true, true, true, true, true, true, true, true, true, true, true, true, true, true, true, false, false, true, false, false, false] rfl rfl (by kernel_rfl) (by decide) (fun K hK => ?_)
  refine goes_ Try.func52 (by kernel_rfl) rfl #[.agg #[.int .i64 (N : Int), .slice Aa_ a.length ca_]] (by rfl) rfl rfl (by (try simp only [List.map_toArray, List.map_cons, List.map_nil]); first | done | rfl) ?_
  refine (bitset_Count.calls k (N : Int) _ _ a _ _ Ca4.out La_ n_a.out).mono ?_
  rintro e w49 ⟨rfl, hb⟩
  refine ⟨_, rfl, ?_⟩
  have m_ab := Aside0.mk (Kd.C_below Cab4.out hb)
  have m_ib := Aside0.mk (Kd.C_below Cib4.out hb)
  have m_a := Aside0.mk (Kd.C_below Ca4.out hb)
  have m_b := Aside0.mk (Kd.C_below Cb4.out hb)
  have m_ra := Aside0.mk (Kd.C_below Cra4.out hb)
  have mB := Aside0.mk (below_step HB.out hb)
  clear HB Cab4 Cib4 Ca4 Cb4 Cra4
  have Cab4 := m_ab; have Cib4 := m_ib; have Ca4 := m_a; have Cb4 := m_b; have Cra4 := m_ra; have HB := mB
  clear mB m_ab m_ib m_a m_b m_ra
  refine hK.out _ _ ⟨(hb.cell (World.block_lt_of_cell? _ _ hHeld.1)).trans hHeld.1, (hb.cell (World.block_lt_of_cell? _ _ hHeld.2.1)).trans hHeld.2.1, (hb.cell (World.block_lt_of_cell? _ _ hHeld.2.2.1)).trans hHeld.2.2.1, (hb.cell (World.block_lt_of_cell? _ _ hHeld.2.2.2.1)).trans hHeld.2.2.2.1, (hb.cell (World.block_lt_of_cell? _ _ hHeld.2.2.2.2.1)).trans hHeld.2.2.2.2.1, (hb.cell (World.block_lt_of_cell? _ _ hHeld.2.2.2.2.2.1)).trans hHeld.2.2.2.2.2.1, (hb.cell (World.block_lt_of_cell? _ _ hHeld.2.2.2.2.2.2.1)).trans hHeld.2.2.2.2.2.2.1, (hb.cell (World.block_lt_of_cell? _ _ hHeld.2.2.2.2.2.2.2.1)).trans hHeld.2.2.2.2.2.2.2.1, (hb.cell (World.block_lt_of_cell? _ _ hHeld.2.2.2.2.2.2.2.2.1)).trans hHeld.2.2.2.2.2.2.2.2.1, (hb.cell (World.block_lt_of_cell? _ _ hHeld.2.2.2.2.2.2.2.2.2)).trans hHeld.2.2.2.2.2.2.2.2.2⟩ (fun hHeld => ?_)
  clear hK K hb
  refine norm_ (a' := ?_) ?_ ?_
  rotate_left
  · show Act.put _ (some 358) _ = _
    simp only [Act.put, List.setIfInBounds_toArray, List.set_cons_zero, List.set_cons_succ, i64_w, i32_w]
    rfl
  refine one_ (i := 15) (N := some 360) #[true, true, true, true, true, true, true, true, true, true, true, true, true, true, true, true, false, true, false, false, false] rfl rfl (by kernel_rfl) (by decide) (fun K hK => ?_)
  refine goes_ Try.func52 (by kernel_rfl) rfl #[.agg #[.int .i64 (N : Int), .slice Ara_ ra.length cra_]] (by rfl) rfl rfl (by (try simp only [List.map_toArray, List.map_cons, List.map_nil]); first | done | rfl) ?_
  refine (bitset_Count.calls k (N : Int) _ _ ra _ _ Cra4.out Lra_ n_ra.out).mono ?_
  rintro e w50 ⟨rfl, hb⟩
  refine ⟨_, rfl, ?_⟩
  have m_ab := Aside0.mk (Kd.C_below Cab4.out hb)
  have m_ib := Aside0.mk (Kd.C_below Cib4.out hb)
  have m_a := Aside0.mk (Kd.C_below Ca4.out hb)
  have m_b := Aside0.mk (Kd.C_below Cb4.out hb)
  have m_ra := Aside0.mk (Kd.C_below Cra4.out hb)
  have mB := Aside0.mk (below_step HB.out hb)
  clear HB Cab4 Cib4 Ca4 Cb4 Cra4
  have Cab4 := m_ab; have Cib4 := m_ib; have Ca4 := m_a; have Cb4 := m_b; have Cra4 := m_ra; have HB := mB
  clear mB m_ab m_ib m_a m_b m_ra
  refine hK.out _ _ ⟨(hb.cell (World.block_lt_of_cell? _ _ hHeld.1)).trans hHeld.1, (hb.cell (World.block_lt_of_cell? _ _ hHeld.2.1)).trans hHeld.2.1, (hb.cell (World.block_lt_of_cell? _ _ hHeld.2.2.1)).trans hHeld.2.2.1, (hb.cell (World.block_lt_of_cell? _ _ hHeld.2.2.2.1)).trans hHeld.2.2.2.1, (hb.cell (World.block_lt_of_cell? _ _ hHeld.2.2.2.2.1)).trans hHeld.2.2.2.2.1, (hb.cell (World.block_lt_of_cell? _ _ hHeld.2.2.2.2.2.1)).trans hHeld.2.2.2.2.2.1, (hb.cell (World.block_lt_of_cell? _ _ hHeld.2.2.2.2.2.2.1)).trans hHeld.2.2.2.2.2.2.1, (hb.cell (World.block_lt_of_cell? _ _ hHeld.2.2.2.2.2.2.2.1)).trans hHeld.2.2.2.2.2.2.2.1, (hb.cell (World.block_lt_of_cell? _ _ hHeld.2.2.2.2.2.2.2.2.1)).trans hHeld.2.2.2.2.2.2.2.2.1, (hb.cell (World.block_lt_of_cell? _ _ hHeld.2.2.2.2.2.2.2.2.2)).trans hHeld.2.2.2.2.2.2.2.2.2⟩ (fun hHeld => ?_)
  clear hK K hb
  refine norm_ (a' := ?_) ?_ ?_
  rotate_left
  · show Act.put _ (some 360) _ = _
    simp only [Act.put, List.setIfInBounds_toArray, List.set_cons_zero, List.set_cons_succ, i64_w, i32_w]
    rfl
  refine pure_ (i := 16) (N := some 361) (v := ?_) (a' := ?_) #[true, true, true, true, true, true, true, true, true, true, true, true, true, true, true, true, true, true, false, false, false] rfl rfl (by kernel_rfl) (fun _ _ _ h => h) (Or.inl ⟨by rfl, ?_⟩) ?_ ?_
  rotate_left
  · intro w'
    go_simp
    rw [i64_w, E3.out]
  rotate_left
  · simp only [Act.put, List.setIfInBounds_toArray, List.set_cons_zero, List.set_cons_succ, i64_w, i32_w]
    rfl
  refine pure_ (i := 18) (N := some 363) (v := ?_) (a' := ?_) #[true, true, true, true, true, true, true, true, true, true, true, true, true, true, true, true, true, true, true, false, false] rfl rfl (by kernel_rfl) (fun _ _ _ h => h) (Or.inl ⟨by rfl, ?_⟩) ?_ ?_
  rotate_left
  · intro w'
    go_simp
    with_reducible rfl
  rotate_left
  · simp only [Act.put, List.setIfInBounds_toArray, List.set_cons_zero, List.set_cons_succ, i64_w, i32_w]
    rfl
  refine pure_ (i := 19) (N := some 364) (v := ?_) (a' := ?_) #[true, true, true, true, true, true, true, true, true, true, true, true, true, true, true, true, true, true, true, true, false] rfl rfl (by kernel_rfl) (fun _ _ _ h => h) (Or.inl ⟨by rfl, ?_⟩) ?_ ?_
  rotate_left
  · intro w'
    go_simp
    with_reducible rfl
  rotate_left
  · simp only [Act.put, List.setIfInBounds_toArray, List.set_cons_zero, List.set_cons_succ, i64_w, i32_w]
    rfl
  refine pure_ (i := 20) (N := some 8) (v := ?_) (a' := ?_) #[true, true, true, true, true, true, true, true, true, true, true, true, true, true, true, true, true, true, true, true, true] rfl rfl (by kernel_rfl) (fun _ _ _ h => h) (Or.inl ⟨by rfl, ?_⟩) ?_ ?_
  rotate_left
  · intro w'
    go_simp
    with_reducible rfl
  rotate_left
  · simp only [Act.put, List.setIfInBounds_toArray, List.set_cons_zero, List.set_cons_succ, i64_w, i32_w]
    rfl
  refine done_ (by kernel_rfl) ?_
  gi_wp2_with fail
  refine bodyPost_ret (v := .bool true) ?_ rfl ⟨rfl, HB.out⟩
  simp [results, Try.f12, go_sem]
end Go.Proofs.Ytjmkhdhffmlhiaa.PAll
end
