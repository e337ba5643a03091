import Derived.Test.YtjmkhdhffmlhiaaBzBitTexts2
import Derived.Test.YtjmkhdhffmlhiaaBzBitTexts3
import Derived.Lib.Hide
import Derived.StillTailTactics
section
namespace Go.Proofs.Ytjmkhdhffmlhiaa.PAll
open Go.RowKit Go.Proofs.YtjmkhdhffmlhiaaW.PrintWords Go.Proofs.YtjmkhdhffmlhiaaW.PrintLast Go.Proofs.YtjmkhdhffmlhiaaW.PrintMore
attribute [local go_sem] max2_int min2_int max_two min_two max_three min_three max_four min_four w64_u8 w64_mod256   -- for this text's walks alone
set_option linter.unusedVariables false
set_option linter.unusedSimpArgs false
set_option maxHeartbeats 8000000 in
set_option maxRecDepth 100000 in
theorem sloperef3_Parse.calls (k : Nat) (a0 : ByteArray) (r1 : Int) (r2 : List Int) (r3 : Int) (r4 : Int) (w : World) (h : sloperef3_Parse.f k a0 = some (r1, r2, r3, r4)) :
    Calls Try.prog 36 #[.string a0] w fun e w' => ∃ v1_ : Value, e = .returned (.tuple #[.agg #[.int .i64 r1, v1_], .int .i64 r3, .int .i64 r4]) ∧ Kd.R (Kd.int .u64) 82 w' w.heap.size (fun _ => True) v1_ r2 ∧ Below w.heap.size w w' := by
  have hu26 := Try.underlying26
  have hu100 := Try.underlying100
  have HB := Aside0.mk (Below.refl w.heap.size w)
  have H : (if (a0.size : Int) > 65536 then ((sloperef3_none.f).bind fun bt102 => (some (bt102.1, bt102.2, 65536, 4))) else ((sloperef3_form.f k a0).bind fun bt106 => (if bt106.2 ≥ 0 then ((sloperef3_none.f).bind fun bt110 => (some (bt110.1, bt110.2, bt106.2, 5))) else (if 0 < (bt106.1.length : Int) then ((sloperef3_sized.f ((rd_T100 bt106.1 0).f0)).bind fun t115 => (if t115 = true then (if 0 ≤ ((rd_T100 bt106.1 0).f0) then (if ((rd_T100 bt106.1 0).f0 : Int).toNat ≤ 281474976710656 then (sloperef3_Parse.l0 k bt106.1 ((rd_T100 bt106.1 0).f0) (List.replicate ((rd_T100 bt106.1 0).f0 : Int).toNat false) 1) else (none)) else (none)) else ((sloperef3_none.f).bind fun bt116 => (some (bt116.1, bt116.2, 0, 60))))) else (none))))) = some (r1, r2, r3, r4) := h
  clear h
  by_cases c2 : (a0.size : Int) > 65536
  · rw [if_pos c2] at H
    have c2b0 : decide (65536 < (a0.size : Int)) = true := decide_eq_true c2
    have c2b1 : decide (65536 < a0.size) = true := decide_eq_true (by omega)
    clear c2
    replace H := Option.bind_eq_some_iff.mp H
    obtain ⟨⟨t102, t103⟩, A30, H⟩ := H
    replace H : (some (t102, t103, 65536, 4)) = some (r1, r2, r3, r4) := H
    have A3 := Aside0.mk A30
    clear A30
    simp only [Option.some.injEq, Prod.mk.injEq] at H
    obtain ⟨rfl, rfl, rfl, rfl⟩ := H
    go_enter Try.func36, Try.ntmps36
    go_wp2_with (first | ((with_reducible refine gate_dst (N := 2) rfl ?_); refine box_event ?hg (N := 2) ?hd (cs := #[.int .i64 0, .slice none 0 0]) (t := 26) ?hr ?_; (case hd => rfl); (case hg => rfl); (case hr => first | (go_simp; done) | (go_simp; rfl)); intro gb101 hg w4 hbox hb; have n0_ := Aside0.mk (below_step (by repeat (first | (with_reducible first | exact HB.out | apply below_alloc | apply pw_below_drewN | apply below_drew1) | exact HB.out)) hb); have n1_ := Aside0.mk (hbox); have n2_ := Aside0.mk ((by rw [hg]; exact (below_size (by repeat (first | (with_reducible first | exact HB.out | apply below_alloc | apply pw_below_drewN | apply below_drew1) | exact HB.out))) : w.heap.size ≤ gb101)); have n3_ := Aside0.mk ((by rw [hg]; exact (below_size (by repeat (first | (with_reducible first | exact HB.out | apply below_alloc | apply pw_below_drewN | apply below_drew1) | exact HB.out))) : w.heap.size ≤ gb101)); clear HB; have HB := n0_; have BK101 := n1_; have GW101 := n2_; have GE101 := n3_; clear n0_ n1_ n2_ n3_; clear hb hbox hg) | ((with_reducible refine gate_callee (f := 60) rfl ?_); refine goesL_ (some 15) rfl rfl Try.func60 (by kernel_rfl) rfl #[] rfl (by (try simp only [List.map_toArray, List.map_cons, List.map_nil]); first | done | rfl | (simp only [List.length_drop, List.length_take]; rfl)) ?_; (with_reducible refine (sloperef3_none.calls  t102 t103 _ A3.out).mono ?_); rintro e w5 ⟨v104, rfl, ho0, hb⟩; refine ⟨_, rfl, ?_⟩; have n0_ := Aside0.mk (Kd.R_lower ho0 (below_size (by repeat (first | (with_reducible first | exact HB.out | apply below_alloc | apply pw_below_drewN | apply below_drew1 | refine below_set ?_ GE101.out) | exact HB.out)))); have n1_ := Aside0.mk (blk_below (g := gb101) (o := .cells #[.int .i64 0, .slice none 0 0] 26 (0, 0)) (by (with_reducible repeat (first | refine blk_drewN ?_ _ | refine blk_drew ?_ | refine blk_alloc ?_ _)); exact BK101.out) hb); have n2_ := Aside0.mk (below_step (by repeat (first | (with_reducible first | exact HB.out | apply below_alloc | apply pw_below_drewN | apply below_drew1 | refine below_set ?_ GE101.out) | exact HB.out)) hb); clear BK101; clear HB; have HO105 := n0_; have BK101 := n1_; have HB := n2_; clear n0_ n1_ n2_; (try clear hb); (try clear hb2); (try clear hk); (try clear hi); (try clear ho0); have hcz6_0 : w5.cell? ⟨gb101, 0, none⟩ = some (.int .i64 0) := (blk_cell BK101.out 0).trans rfl; have hcz6_1 : w5.cell? ⟨gb101, 1, none⟩ = some (.slice none 0 0) := (blk_cell BK101.out 1).trans rfl; have hfz6_0 := blk_frozen BK101.out 0; have hfz6_1 := blk_frozen BK101.out 1; obtain ⟨Ao7, co7, eo7⟩ := Kd.R_slice HO105.out; subst eo7))
    refine bodyPost_ret (results_ctt rfl _ _ gb101 26 #[.int .i64 t102, .slice Ao7 t103.length co7] (0, 0) _ rfl (by (with_reducible repeat (first | refine blk_drewN ?_ _ | refine blk_drew ?_ | refine blk_alloc ?_ _)); refine blk_put (cs := #[.int .i64 t102, .slice none 0 0]) ?_ 1 _ rfl; (with_reducible repeat (first | refine blk_drewN ?_ _ | refine blk_drew ?_ | refine blk_alloc ?_ _)); refine blk_put (cs := #[.int .i64 0, .slice none 0 0]) ?_ 0 _ rfl; (with_reducible repeat (first | refine blk_drewN ?_ _ | refine blk_drew ?_ | refine blk_alloc ?_ _)); exact BK101.out) Try.underlying26 rfl (by kernel_rfl)) rfl ?_
    exact ⟨_, by first | rfl | (simp [errW_none, errW_some] <;> rfl) | (simp [*, errW_none, errW_some] <;> rfl), by (with_reducible repeat (first | apply Kd.R_alloc | apply Kd.R_drewN | apply Kd.R_drew)); exact Kd.R_mono (Kd.R_far (p := ⟨gb101, 1, none⟩) (Kd.R_far (p := ⟨gb101, 0, none⟩) (Kd.R_types HO105.out BK101.out (by decide)) (fun _ hk => hk.2) (.int .i64 t102)) (fun _ hk => hk.2) (.slice Ao7 t103.length co7)) (fun _ hk => trivial), by repeat (first | (with_reducible first | exact HB.out | apply below_alloc | apply pw_below_drewN | apply below_drew1 | refine below_set ?_ GE101.out) | exact HB.out)⟩
  · rw [if_neg c2] at H
    have c2b0 : decide (65536 < (a0.size : Int)) = false := decide_eq_false c2
    have c2b1 : decide (65536 < a0.size) = false := decide_eq_false (by omega)
    clear c2
    replace H := Option.bind_eq_some_iff.mp H
    obtain ⟨⟨t106, t107⟩, A80, H⟩ := H
    replace H : (if t107 ≥ 0 then ((sloperef3_none.f).bind fun bt110 => (some (bt110.1, bt110.2, t107, 5))) else (if 0 < (t106.length : Int) then ((sloperef3_sized.f ((rd_T100 t106 0).f0)).bind fun t115 => (if t115 = true then (if 0 ≤ ((rd_T100 t106 0).f0) then (if ((rd_T100 t106 0).f0 : Int).toNat ≤ 281474976710656 then (sloperef3_Parse.l0 k t106 ((rd_T100 t106 0).f0) (List.replicate ((rd_T100 t106 0).f0 : Int).toNat false) 1) else (none)) else (none)) else ((sloperef3_none.f).bind fun bt116 => (some (bt116.1, bt116.2, 0, 60))))) else (none))) = some (r1, r2, r3, r4) := H
    have A8 := Aside0.mk A80
    clear A80
    by_cases c9 : t107 ≥ 0
    · rw [if_pos c9] at H
      have c9b0 : decide (0 ≤ t107) = true := decide_eq_true c9
      clear c9
      replace H := Option.bind_eq_some_iff.mp H
      obtain ⟨⟨t110, t111⟩, A100, H⟩ := H
      replace H : (some (t110, t111, t107, 5)) = some (r1, r2, r3, r4) := H
      have A10 := Aside0.mk A100
      clear A100
      simp only [Option.some.injEq, Prod.mk.injEq] at H
      obtain ⟨rfl, rfl, rfl, rfl⟩ := H
      go_enter Try.func36, Try.ntmps36
      go_wp2_with (first | ((with_reducible refine gate_dst (N := 2) rfl ?_); refine box_event ?hg (N := 2) ?hd (cs := #[.int .i64 0, .slice none 0 0]) (t := 26) ?hr ?_; (case hd => rfl); (case hg => rfl); (case hr => first | (go_simp; done) | (go_simp; rfl)); intro gb101 hg w11 hbox hb; have n0_ := Aside0.mk (below_step (by repeat (first | (with_reducible first | exact HB.out | apply below_alloc | apply pw_below_drewN | apply below_drew1) | exact HB.out)) hb); have n1_ := Aside0.mk (hbox); have n2_ := Aside0.mk ((by rw [hg]; exact (below_size (by repeat (first | (with_reducible first | exact HB.out | apply below_alloc | apply pw_below_drewN | apply below_drew1) | exact HB.out))) : w.heap.size ≤ gb101)); have n3_ := Aside0.mk ((by rw [hg]; exact (below_size (by repeat (first | (with_reducible first | exact HB.out | apply below_alloc | apply pw_below_drewN | apply below_drew1) | exact HB.out))) : w.heap.size ≤ gb101)); clear HB; have HB := n0_; have BK101 := n1_; have GW101 := n2_; have GE101 := n3_; clear n0_ n1_ n2_ n3_; clear hb hbox hg) | ((with_reducible refine gate_callee (f := 73) rfl ?_); refine goesL_ (some 18) rfl rfl Try.func73 (by kernel_rfl) rfl #[.string a0] rfl (by (try simp only [List.map_toArray, List.map_cons, List.map_nil]); first | done | rfl | (simp only [List.length_drop, List.length_take]; rfl)) ?_; (with_reducible refine (sloperef3_form.calls k a0 t106 t107 _ A8.out).mono ?_); rintro e w12 ⟨v108, rfl, ho0, hb⟩; refine ⟨_, rfl, ?_⟩; have n0_ := Aside0.mk (Kd.R_lower ho0 (below_size (by repeat (first | (with_reducible first | exact HB.out | apply below_alloc | apply pw_below_drewN | apply below_drew1 | refine below_set ?_ GE101.out) | exact HB.out)))); have n1_ := Aside0.mk (blk_below (g := gb101) (o := .cells #[.int .i64 0, .slice none 0 0] 26 (0, 0)) (by (with_reducible repeat (first | refine blk_drewN ?_ _ | refine blk_drew ?_ | refine blk_alloc ?_ _)); exact BK101.out) hb); have n2_ := Aside0.mk (below_step (by repeat (first | (with_reducible first | exact HB.out | apply below_alloc | apply pw_below_drewN | apply below_drew1 | refine below_set ?_ GE101.out) | exact HB.out)) hb); clear BK101; clear HB; have HO109 := n0_; have BK101 := n1_; have HB := n2_; clear n0_ n1_ n2_; (try clear hb); (try clear hb2); (try clear hk); (try clear hi); (try clear ho0)) | ((with_reducible refine gate_callee (f := 60) rfl ?_); refine goesL_ (some 23) rfl rfl Try.func60 (by kernel_rfl) rfl #[] rfl (by (try simp only [List.map_toArray, List.map_cons, List.map_nil]); first | done | rfl | (simp only [List.length_drop, List.length_take]; rfl)) ?_; (with_reducible refine (sloperef3_none.calls  t110 t111 _ A10.out).mono ?_); rintro e w13 ⟨v112, rfl, ho0, hb⟩; refine ⟨_, rfl, ?_⟩; have n0_ := Aside0.mk (Kd.R_below (by (with_reducible repeat (first | apply Kd.R_alloc | apply Kd.R_drewN | apply Kd.R_drew)); exact HO109.out) hb); have n1_ := Aside0.mk (Kd.R_lower ho0 (below_size (by repeat (first | (with_reducible first | exact HB.out | apply below_alloc | apply pw_below_drewN | apply below_drew1 | refine below_set ?_ GE101.out) | exact HB.out)))); have n2_ := Aside0.mk (blk_below (g := gb101) (o := .cells #[.int .i64 0, .slice none 0 0] 26 (0, 0)) (by (with_reducible repeat (first | refine blk_drewN ?_ _ | refine blk_drew ?_ | refine blk_alloc ?_ _)); exact BK101.out) hb); have n3_ := Aside0.mk (below_step (by repeat (first | (with_reducible first | exact HB.out | apply below_alloc | apply pw_below_drewN | apply below_drew1 | refine below_set ?_ GE101.out) | exact HB.out)) hb); clear HO109; clear BK101; clear HB; have HO109 := n0_; have HO113 := n1_; have BK101 := n2_; have HB := n3_; clear n0_ n1_ n2_ n3_; (try clear hb); (try clear hb2); (try clear hk); (try clear hi); (try clear ho0); have hcz14_0 : w13.cell? ⟨gb101, 0, none⟩ = some (.int .i64 0) := (blk_cell BK101.out 0).trans rfl; have hcz14_1 : w13.cell? ⟨gb101, 1, none⟩ = some (.slice none 0 0) := (blk_cell BK101.out 1).trans rfl; have hfz14_0 := blk_frozen BK101.out 0; have hfz14_1 := blk_frozen BK101.out 1; obtain ⟨Ao15, co15, eo15⟩ := Kd.R_slice HO113.out; subst eo15))
      refine bodyPost_ret (results_ctt rfl _ _ gb101 26 #[.int .i64 t110, .slice Ao15 t111.length co15] (0, 0) _ rfl (by (with_reducible repeat (first | refine blk_drewN ?_ _ | refine blk_drew ?_ | refine blk_alloc ?_ _)); refine blk_put (cs := #[.int .i64 t110, .slice none 0 0]) ?_ 1 _ rfl; (with_reducible repeat (first | refine blk_drewN ?_ _ | refine blk_drew ?_ | refine blk_alloc ?_ _)); refine blk_put (cs := #[.int .i64 0, .slice none 0 0]) ?_ 0 _ rfl; (with_reducible repeat (first | refine blk_drewN ?_ _ | refine blk_drew ?_ | refine blk_alloc ?_ _)); exact BK101.out) Try.underlying26 rfl (by kernel_rfl)) rfl ?_
      exact ⟨_, by first | rfl | (simp [errW_none, errW_some] <;> rfl) | (simp [*, errW_none, errW_some] <;> rfl), by (with_reducible repeat (first | apply Kd.R_alloc | apply Kd.R_drewN | apply Kd.R_drew)); exact Kd.R_mono (Kd.R_far (p := ⟨gb101, 1, none⟩) (Kd.R_far (p := ⟨gb101, 0, none⟩) (Kd.R_types HO113.out BK101.out (by decide)) (fun _ hk => hk.2) (.int .i64 t110)) (fun _ hk => hk.2) (.slice Ao15 t111.length co15)) (fun _ hk => trivial), by repeat (first | (with_reducible first | exact HB.out | apply below_alloc | apply pw_below_drewN | apply below_drew1 | refine below_set ?_ GE101.out) | exact HB.out)⟩
    · rw [if_neg c9] at H
      have c9b0 : decide (0 ≤ t107) = false := decide_eq_false c9
      clear c9
      by_cases c16 : 0 < (t106.length : Int)
      · rw [if_pos c16] at H
        have c16b0 : decide (0 < (t106.length : Int)) = true := decide_eq_true c16
        have c16b1 : decide (0 < t106.length) = true := decide_eq_true (by omega)
        clear c16
        replace H := Option.bind_eq_some_iff.mp H
        obtain ⟨t115, A170, H⟩ := H
        replace H : (if t115 = true then (if 0 ≤ ((rd_T100 t106 0).f0) then (if ((rd_T100 t106 0).f0 : Int).toNat ≤ 281474976710656 then (sloperef3_Parse.l0 k t106 ((rd_T100 t106 0).f0) (List.replicate ((rd_T100 t106 0).f0 : Int).toNat false) 1) else (none)) else (none)) else ((sloperef3_none.f).bind fun bt116 => (some (bt116.1, bt116.2, 0, 60)))) = some (r1, r2, r3, r4) := H
        have A17 := Aside0.mk A170
        clear A170
        by_cases c18 : t115 = true
        · subst c18
          have H1 : (if 0 ≤ ((rd_T100 t106 0).f0) then (if ((rd_T100 t106 0).f0 : Int).toNat ≤ 281474976710656 then (sloperef3_Parse.l0 k t106 ((rd_T100 t106 0).f0) (List.replicate ((rd_T100 t106 0).f0 : Int).toNat false) 1) else (none)) else (none)) = some (r1, r2, r3, r4) := by rw [if_pos rfl] at H; exact H
          clear H
          have H := H1
          clear H1
          by_cases c19 : 0 ≤ ((rd_T100 t106 0).f0)
          · rw [if_pos c19] at H
            have c19b0 := eq_true c19
            have c19b1 : decide (0 ≤ ((rd_T100 t106 0).f0)) = true := decide_eq_true c19
            clear c19
            by_cases c20 : ((rd_T100 t106 0).f0 : Int).toNat ≤ 281474976710656
            · rw [if_pos c20] at H
              have c20b0 := eq_true c20
              have c20b1 : decide (((rd_T100 t106 0).f0 : Int).toNat ≤ 281474976710656) = true := decide_eq_true c20
              clear c20
              obtain ⟨y120, hy120⟩ : ∃ y_ : List Bool, y_ = (List.replicate ((rd_T100 t106 0).f0 : Int).toNat false) := ⟨_, rfl⟩
              replace H : (sloperef3_Parse.l0 k t106 ((rd_T100 t106 0).f0) y120 1) = some (r1, r2, r3, r4) := by first | (rw [hy120]; with_reducible exact H) | (have H2_ := (Option.bind_some _ _).symm.trans H; rw [hy120]; with_reducible exact H2_) | (have H2_ := (Option.bind_some _ _).symm.trans H; with_reducible exact H2_) | with_reducible exact H | (rw [hy120]; exact H) | exact H
              have Ny120 := Aside0.mk hy120
              clear hy120
              have H' := Aside0.mk H
              clear H
              go_enter Try.func36, Try.ntmps36
              go_wp2_with (first | ((with_reducible refine gate_dst (N := 2) rfl ?_); refine box_event ?hg (N := 2) ?hd (cs := #[.int .i64 0, .slice none 0 0]) (t := 26) ?hr ?_; (case hd => rfl); (case hg => rfl); (case hr => first | (go_simp; done) | (go_simp; rfl)); intro gb101 hg w21 hbox hb; have n0_ := Aside0.mk (below_step (by repeat (first | (with_reducible first | exact HB.out | apply below_alloc | apply pw_below_drewN | apply below_drew1) | exact HB.out)) hb); have n1_ := Aside0.mk (hbox); have n2_ := Aside0.mk ((by rw [hg]; exact (below_size (by repeat (first | (with_reducible first | exact HB.out | apply below_alloc | apply pw_below_drewN | apply below_drew1) | exact HB.out))) : w.heap.size ≤ gb101)); have n3_ := Aside0.mk ((by rw [hg]; exact (below_size (by repeat (first | (with_reducible first | exact HB.out | apply below_alloc | apply pw_below_drewN | apply below_drew1) | exact HB.out))) : w.heap.size ≤ gb101)); clear HB; have HB := n0_; have BK101 := n1_; have GW101 := n2_; have GE101 := n3_; clear n0_ n1_ n2_ n3_; clear hb hbox hg) | ((with_reducible refine gate_callee (f := 73) rfl ?_); refine goesL_ (some 18) rfl rfl Try.func73 (by kernel_rfl) rfl #[.string a0] rfl (by (try simp only [List.map_toArray, List.map_cons, List.map_nil]); first | done | rfl | (simp only [List.length_drop, List.length_take]; rfl)) ?_; (with_reducible refine (sloperef3_form.calls k a0 t106 t107 _ A8.out).mono ?_); rintro e w22 ⟨v108, rfl, ho0, hb⟩; refine ⟨_, rfl, ?_⟩; have n0_ := Aside0.mk (Kd.R_lower ho0 (below_size (by repeat (first | (with_reducible first | exact HB.out | apply below_alloc | apply pw_below_drewN | apply below_drew1 | refine below_set ?_ GE101.out) | exact HB.out)))); have n1_ := Aside0.mk (blk_below (g := gb101) (o := .cells #[.int .i64 0, .slice none 0 0] 26 (0, 0)) (by (with_reducible repeat (first | refine blk_drewN ?_ _ | refine blk_drew ?_ | refine blk_alloc ?_ _)); exact BK101.out) hb); have n2_ := Aside0.mk (below_step (by repeat (first | (with_reducible first | exact HB.out | apply below_alloc | apply pw_below_drewN | apply below_drew1 | refine below_set ?_ GE101.out) | exact HB.out)) hb); clear BK101; clear HB; have HO109 := n0_; have BK101 := n1_; have HB := n2_; clear n0_ n1_ n2_; (try clear hb); (try clear hb2); (try clear hk); (try clear hi); (try clear ho0); obtain ⟨Ao23, co23, eo23⟩ := Kd.R_slice HO109.out; subst eo23; have p114 : 0 ≤ (0 : Int) := (by omega); have q114 : 0 < (t106.length : Int) := of_decide_eq_true (by first | (with_reducible assumption) | assumption); obtain ⟨ad114, e114, hx114_0, hx114_1, hx114_2⟩ := at_T100 (Kd.R_reads' HO109.out).2.2 0 p114 q114; cases e114; have qi114 : (0 < t106.length) = True := eq_true (by omega); (try rw [show ((0 : Int)).toNat = 0 from rfl] at hx114_0); (try rw [show 0 * 3 = 0 from rfl] at hx114_0); (try rw [Addr.add_zero'] at hx114_0); (try rw [show ((0 : Int)).toNat = 0 from rfl] at hx114_1); (try rw [show 0 * 3 = 0 from rfl] at hx114_1); (try rw [Addr.add_zero'] at hx114_1); (try rw [show ((0 : Int)).toNat = 0 from rfl] at hx114_2); (try rw [show 0 * 3 = 0 from rfl] at hx114_2); (try rw [Addr.add_zero'] at hx114_2); replace p114 := eq_true p114; replace q114 := eq_true q114) | ((with_reducible refine gate_callee (f := 59) rfl ?_); refine goesL_ (some 30) rfl rfl Try.func59 (by kernel_rfl) rfl #[.int .i64 ((rd_T100 t106 0).f0)] rfl (by (try simp only [List.map_toArray, List.map_cons, List.map_nil]); first | done | rfl | (simp only [List.length_drop, List.length_take]; rfl)) ?_; (with_reducible refine (sloperef3_sized.calls ((rd_T100 t106 0).f0) true _ A17.out).mono ?_); rintro e w' ⟨rfl, ⟨nd, rfl⟩⟩; refine ⟨_, rfl, ?_⟩) | ((with_reducible refine gate_dst (N := 34) rfl ?_); refine Kd.R_make Kd.bool _ 4 rfl (N := 34) rfl 80 _ _ rfl ((rd_T100 t106 0).f0) rfl rfl Try.underlying80 (.bool false) 1 info4 rfl (by decide) (by omega) false (ok := fun _ => True) (okp := fun _ => True) rfl (fun _ hk => hk) trivial (of_decide_eq_true (by first | (with_reducible assumption) | assumption)) (Nat.le_trans (Nat.mul_le_mul_right _ (of_decide_eq_true (by first | (with_reducible assumption) | assumption) : ((rd_T100 t106 0).f0).toNat ≤ 281474976710656)) (by omega)) (Below.refl _ _) (Nat.le_refl _) ?_; intro v121 w24 ho25 hb hg_ hnew_; clear hg_ hnew_; (first | rw [← Ny120.out] at ho25 | (simp only [Int.reduceToNat] at ho25; rw [← Ny120.out] at ho25)); have n0_ := Aside0.mk (Kd.R_below (by (with_reducible repeat (first | apply Kd.R_alloc | apply Kd.R_drewN | apply Kd.R_drew)); exact HO109.out) hb); have n1_ := Aside0.mk (Kd.R_lower ho25 (below_size (by repeat (first | (with_reducible first | exact HB.out | apply below_alloc | apply pw_below_drewN | apply below_drew1 | refine below_set ?_ GE101.out) | exact HB.out)))); have n2_ := Aside0.mk (blk_below (g := gb101) (o := .cells #[.int .i64 0, .slice none 0 0] 26 (0, 0)) (by (with_reducible repeat (first | refine blk_drewN ?_ _ | refine blk_drew ?_ | refine blk_alloc ?_ _)); exact BK101.out) hb); have n3_ := Aside0.mk (below_step (by repeat (first | (with_reducible first | exact HB.out | apply below_alloc | apply pw_below_drewN | apply below_drew1 | refine below_set ?_ GE101.out) | exact HB.out)) hb); clear HO109; clear BK101; clear HB; have HO109 := n0_; have HO122 := n1_; have BK101 := n2_; have HB := n3_; clear n0_ n1_ n2_ n3_; clear hb ho25))
              go_loopg [9] k (fun kq v9 w' => ∃ (x8_1 : List Bool) (x9_1 : Int) (x102000_1 : Int), v9 = .int .i64 x9_1 ∧ Aside0 (sloperef3_Parse.l0 kq t106 ((rd_T100 t106 0).f0) x8_1 x9_1 = some (r1, r2, r3, r4)) ∧ Aside0 (kq ≤ k) ∧ Aside0 (Kd.R k100 100 w' w.heap.size (fun _ => True) (.slice (some ad114) t106.length co23) t106) ∧ Aside0 (Kd.R Kd.bool 4 w' w.heap.size (fun _ => True) v121 x8_1) ∧ Aside0 (w'.heap[gb101]? = some (.cells #[.int .i64 x102000_1, (.slice none 0 0)] 26 (0, 0))) ∧ Aside0 (Below w.heap.size w w'))
              case atStart => exact ⟨(y120), (1), (0), (by first | rfl | (simp; done) | (simp [*]; done)), H', ⟨Nat.le_refl _⟩, ⟨by (with_reducible repeat (first | apply Kd.R_alloc | apply Kd.R_drewN | apply Kd.R_drew)); exact HO109.out⟩, ⟨by (with_reducible repeat (first | apply Kd.R_alloc | apply Kd.R_drewN | apply Kd.R_drew)); exact HO122.out⟩, ⟨by (with_reducible repeat (first | refine blk_drewN ?_ _ | refine blk_drew ?_ | refine blk_alloc ?_ _)); exact BK101.out⟩, ⟨by repeat (first | (with_reducible first | exact HB.out | apply below_alloc | apply pw_below_drewN | apply below_drew1 | refine below_set ?_ GE101.out) | exact HB.out)⟩⟩
              case round =>
                clear H'
                try clear c1
                try clear p1
                try clear q1
                try clear hx1
                try clear qi1
                try clear c2
                try clear c2b0
                try clear c2b1
                try clear p2
                try clear c3
                try clear c5
                try clear c6
                try clear c7
                try clear c9
                try clear c9b0
                try clear p11
                try clear q11
                try clear hx11
                try clear qi11
                try clear c16
                try clear c16b0
                try clear c16b1
                try clear c18
                try clear c19
                try clear c19b0
                try clear c19b1
                try clear c20
                try clear c20b0
                try clear c20b1
                try clear hcz14_0
                try clear hcz14_1
                try clear hcz6_0
                try clear hcz6_1
                try clear hfz14_0
                try clear hfz14_1
                try clear hfz6_0
                try clear hfz6_1
                try clear hx114_0
                try clear hx114_1
                try clear hx114_2
                try clear p114
                try clear q114
                obtain ⟨x8_1, x9_1, x102000_1, rfl, HA, HK1, HO_5, HO_8, BK101, HB⟩ := hrel
                cases gk with
                | zero => exact absurd HA.out (by simp [sloperef3_Parse.l0])
                | succ k1 =>
                  have H := HA.out
                  clear HA
                  simp only [sloperef3_Parse.l0] at H
                  by_cases c26 : x9_1 < (t106.length : Int)
                  · rw [if_pos c26] at H
                    have c26b0 : decide (x9_1 < (t106.length : Int)) = true := decide_eq_true c26
                    clear c26
                    by_cases c27 : 0 ≤ x9_1
                    · rw [if_pos c27] at H
                      have c27b0 : decide (0 ≤ x9_1) = true := decide_eq_true c27
                      clear c27
                      by_cases c28 : ((rd_T100 t106 x9_1).f0) ≥ ((rd_T100 t106 0).f0)
                      · rw [if_pos c28] at H
                        have c28b0 : decide (((rd_T100 t106 0).f0) ≤ ((rd_T100 t106 x9_1).f0)) = true := decide_eq_true c28
                        clear c28
                        replace H := Option.bind_eq_some_iff.mp H
                        obtain ⟨⟨t129, t130⟩, A290, H⟩ := H
                        replace H : (some (t129, t130, (rd_T100 t106 x9_1).f1, 62)) = some (r1, r2, r3, r4) := H
                        have A29 := Aside0.mk A290
                        clear A290
                        simp only [Option.some.injEq, Prod.mk.injEq] at H
                        obtain ⟨rfl, rfl, rfl, rfl⟩ := H
                        have p127 : 0 ≤ (x9_1 : Int) := of_decide_eq_true (by first | (with_reducible assumption) | assumption)
                        have q127 : x9_1 < (t106.length : Int) := of_decide_eq_true (by first | (with_reducible assumption) | assumption)
                        obtain ⟨ad127, e127, hx127_0, hx127_1, hx127_2⟩ := at_T100 (Kd.R_reads' HO_5.out).2.2 x9_1 p127 q127
                        obtain rfl : ad114 = ad127 := (by injection e127)
                        replace p127 := eq_true p127
                        replace q127 := eq_true q127
                        try go_wp2_with (first | ((with_reducible refine gate_dst (N := 10) rfl ?_); refine box_event ?hg (N := 10) ?hd (cs := #[.int .i64 0, .int .i64 0, .int .u8 0]) (t := 100) ?hr ?_; (case hd => rfl); (case hg => rfl); (case hr => first | (go_simp; done) | (go_simp; rfl)); intro gb128 hg w30 hbox hb; have n0_ := Aside0.mk (Kd.R_below (Kd.R_elderB (by (with_reducible repeat (first | apply Kd.R_alloc | apply Kd.R_drewN | apply Kd.R_drew)); exact HO_5.out) gb128 (Nat.le_of_eq hg.symm)) hb); have n1_ := Aside0.mk (Kd.R_below (by (with_reducible repeat (first | apply Kd.R_alloc | apply Kd.R_drewN | apply Kd.R_drew)); exact HO_8.out) hb); have n2_ := Aside0.mk (blk_below (g := gb101) (o := .cells #[.int .i64 x102000_1, .slice none 0 0] 26 (0, 0)) (by (with_reducible repeat (first | refine blk_drewN ?_ _ | refine blk_drew ?_ | refine blk_alloc ?_ _)); exact BK101.out) hb); have n3_ := Aside0.mk (below_step (by repeat (first | (with_reducible first | exact HB.out | apply below_alloc | apply pw_below_drewN | apply below_drew1 | refine below_set ?_ GE101.out) | exact HB.out)) hb); have n4_ := Aside0.mk (hbox); have n5_ := Aside0.mk ((by rw [hg]; exact (below_size (by repeat (first | (with_reducible first | exact HB.out | apply below_alloc | apply pw_below_drewN | apply below_drew1 | refine below_set ?_ GE101.out) | exact HB.out))) : w.heap.size ≤ gb128)); have n6_ := Aside0.mk ((by rw [hg]; exact (below_size (by repeat (first | (with_reducible first | exact HB.out | apply below_alloc | apply pw_below_drewN | apply below_drew1 | refine below_set ?_ GE101.out) | exact HB.out))) : w.heap.size ≤ gb128)); have n7_ := Aside0.mk ((by rw [hg]; exact Nat.ne_of_lt (blk_lt (g := gb101) (o := .cells #[.int .i64 x102000_1, .slice none 0 0] 26 (0, 0)) (by (with_reducible repeat (first | refine blk_drewN ?_ _ | refine blk_drew ?_ | refine blk_alloc ?_ _)); exact BK101.out)) : gb101 ≠ gb128)); have n8_ := Aside0.mk ((by rw [hg]; exact Nat.ne_of_gt (blk_lt (g := gb101) (o := .cells #[.int .i64 x102000_1, .slice none 0 0] 26 (0, 0)) (by (with_reducible repeat (first | refine blk_drewN ?_ _ | refine blk_drew ?_ | refine blk_alloc ?_ _)); exact BK101.out)) : gb128 ≠ gb101)); clear HO_5; clear HO_8; clear BK101; clear HB; have HO_5 := n0_; have HO_8 := n1_; have BK101 := n2_; have HB := n3_; have BK128 := n4_; have GW128 := n5_; have GE128 := n6_; have NB101_128 := n7_; have NB128_101 := n8_; clear n0_ n1_ n2_ n3_ n4_ n5_ n6_ n7_ n8_; clear hb hbox hg; have hnb31 := NB128_101.out; have hnc31 := NB101_128.out; have hcz32_0 : w30.cell? ⟨gb128, 0, none⟩ = some (.int .i64 0) := (blk_cell BK128.out 0).trans rfl; have hcz32_1 : w30.cell? ⟨gb128, 1, none⟩ = some (.int .i64 0) := (blk_cell BK128.out 1).trans rfl; have hcz32_2 : w30.cell? ⟨gb128, 2, none⟩ = some (.int .u8 0) := (blk_cell BK128.out 2).trans rfl; have hfz32_0 := blk_frozen BK128.out 0; have hfz32_1 := blk_frozen BK128.out 1; have hfz32_2 := blk_frozen BK128.out 2))
                        have n0_ : Aside0 (Kd.R k100 100 (((w30.setCell ⟨gb128, 0, none⟩ (.int .i64 ((rd_T100 t106 x9_1).f0))).setCell ⟨gb128, 1, none⟩ (.int .i64 ((rd_T100 t106 x9_1).f1))).setCell ⟨gb128, 2, none⟩ (.int .u8 ((rd_T100 t106 x9_1).f2))) w.heap.size (fun k_ => k_ ≠ gb128) (.slice (some ad114) t106.length co23) t106) := ⟨by (with_reducible repeat (first | apply Kd.R_alloc | apply Kd.R_drewN | apply Kd.R_drew)); exact Kd.R_mono (Kd.R_far (p := ⟨gb128, 2, none⟩) (Kd.R_far (p := ⟨gb128, 1, none⟩) (Kd.R_far (p := ⟨gb128, 0, none⟩) (Kd.R_mono HO_5.out (fun k_ hk => (⟨hk, hk.2⟩ : _ ∧ k_ ≠ gb128))) (fun _ hk => hk.2) (.int .i64 ((rd_T100 t106 x9_1).f0))) (fun _ hk => hk.2) (.int .i64 ((rd_T100 t106 x9_1).f1))) (fun _ hk => hk.2) (.int .u8 ((rd_T100 t106 x9_1).f2))) (fun _ hk => hk.1.2)⟩
                        have n1_ : Aside0 (Kd.R Kd.bool 4 (((w30.setCell ⟨gb128, 0, none⟩ (.int .i64 ((rd_T100 t106 x9_1).f0))).setCell ⟨gb128, 1, none⟩ (.int .i64 ((rd_T100 t106 x9_1).f1))).setCell ⟨gb128, 2, none⟩ (.int .u8 ((rd_T100 t106 x9_1).f2))) w.heap.size (fun _ => True) v121 x8_1) := ⟨by (with_reducible repeat (first | apply Kd.R_alloc | apply Kd.R_drewN | apply Kd.R_drew)); exact Kd.R_mono (Kd.R_far (p := ⟨gb128, 2, none⟩) (Kd.R_far (p := ⟨gb128, 1, none⟩) (Kd.R_far (p := ⟨gb128, 0, none⟩) (Kd.R_types HO_8.out BK128.out (by decide)) (fun _ hk => hk.2) (.int .i64 ((rd_T100 t106 x9_1).f0))) (fun _ hk => hk.2) (.int .i64 ((rd_T100 t106 x9_1).f1))) (fun _ hk => hk.2) (.int .u8 ((rd_T100 t106 x9_1).f2))) (fun _ hk => trivial)⟩
                        have n2_ : Aside0 ((((w30.setCell ⟨gb128, 0, none⟩ (.int .i64 ((rd_T100 t106 x9_1).f0))).setCell ⟨gb128, 1, none⟩ (.int .i64 ((rd_T100 t106 x9_1).f1))).setCell ⟨gb128, 2, none⟩ (.int .u8 ((rd_T100 t106 x9_1).f2))).heap[gb101]? = some (.cells #[.int .i64 x102000_1, .slice none 0 0] 26 (0, 0))) := ⟨by (with_reducible repeat (first | refine blk_drewN ?_ _ | refine blk_drew ?_ | refine blk_alloc ?_ _)); refine blk_far ?_ NB101_128.out _; (with_reducible repeat (first | refine blk_drewN ?_ _ | refine blk_drew ?_ | refine blk_alloc ?_ _)); refine blk_far ?_ NB101_128.out _; (with_reducible repeat (first | refine blk_drewN ?_ _ | refine blk_drew ?_ | refine blk_alloc ?_ _)); refine blk_far ?_ NB101_128.out _; (with_reducible repeat (first | refine blk_drewN ?_ _ | refine blk_drew ?_ | refine blk_alloc ?_ _)); exact BK101.out⟩
                        have n3_ : Aside0 ((((w30.setCell ⟨gb128, 0, none⟩ (.int .i64 ((rd_T100 t106 x9_1).f0))).setCell ⟨gb128, 1, none⟩ (.int .i64 ((rd_T100 t106 x9_1).f1))).setCell ⟨gb128, 2, none⟩ (.int .u8 ((rd_T100 t106 x9_1).f2))).heap[gb128]? = some (.cells #[.int .i64 ((rd_T100 t106 x9_1).f0), .int .i64 ((rd_T100 t106 x9_1).f1), .int .u8 ((rd_T100 t106 x9_1).f2)] 100 (0, 0))) := ⟨by (with_reducible repeat (first | refine blk_drewN ?_ _ | refine blk_drew ?_ | refine blk_alloc ?_ _)); refine blk_put (cs := #[.int .i64 ((rd_T100 t106 x9_1).f0), .int .i64 ((rd_T100 t106 x9_1).f1), .int .u8 0]) ?_ 2 _ rfl; (with_reducible repeat (first | refine blk_drewN ?_ _ | refine blk_drew ?_ | refine blk_alloc ?_ _)); refine blk_put (cs := #[.int .i64 ((rd_T100 t106 x9_1).f0), .int .i64 0, .int .u8 0]) ?_ 1 _ rfl; (with_reducible repeat (first | refine blk_drewN ?_ _ | refine blk_drew ?_ | refine blk_alloc ?_ _)); refine blk_put (cs := #[.int .i64 0, .int .i64 0, .int .u8 0]) ?_ 0 _ rfl; (with_reducible repeat (first | refine blk_drewN ?_ _ | refine blk_drew ?_ | refine blk_alloc ?_ _)); exact BK128.out⟩
                        have n4_ : Aside0 (Below w.heap.size w (((w30.setCell ⟨gb128, 0, none⟩ (.int .i64 ((rd_T100 t106 x9_1).f0))).setCell ⟨gb128, 1, none⟩ (.int .i64 ((rd_T100 t106 x9_1).f1))).setCell ⟨gb128, 2, none⟩ (.int .u8 ((rd_T100 t106 x9_1).f2)))) := ⟨by repeat (first | (with_reducible first | exact HB.out | apply below_alloc | apply pw_below_drewN | apply below_drew1 | refine below_set ?_ GE101.out | refine below_set ?_ GE128.out) | exact HB.out)⟩
                        (try clear HO_5)
                        (try clear HO_8)
                        (try clear BK101)
                        (try clear BK128)
                        (try clear HB)
                        generalize (((w30.setCell ⟨gb128, 0, none⟩ (.int .i64 ((rd_T100 t106 x9_1).f0))).setCell ⟨gb128, 1, none⟩ (.int .i64 ((rd_T100 t106 x9_1).f1))).setCell ⟨gb128, 2, none⟩ (.int .u8 ((rd_T100 t106 x9_1).f2))) = w33 at n0_ n1_ n2_ n3_ n4_ ⊢
                        have HO_5 := n0_
                        have HO_8 := n1_
                        have BK101 := n2_
                        have BK128 := n3_
                        have HB := n4_
                        clear n0_ n1_ n2_ n3_ n4_
                        have n0_ := Aside0.mk (Kd.R_drew HO_5.out)
                        have n1_ := Aside0.mk (Kd.R_drew HO_8.out)
                        have n2_ := Aside0.mk (blk_drew BK101.out)
                        have n3_ := Aside0.mk (blk_drew BK128.out)
                        have n4_ := Aside0.mk (below_drew1 HB.out)
                        clear HO_5
                        clear HO_8
                        clear BK101
                        clear BK128
                        clear HB
                        have HO_5 := n0_
                        have HO_8 := n1_
                        have BK101 := n2_
                        have BK128 := n3_
                        have HB := n4_
                        clear n0_ n1_ n2_ n3_ n4_
                        refine start_ (n := 6) (S := fun w' => w'.cell? ⟨gb128, 0, none⟩ = some (.int .i64 ((rd_T100 t106 x9_1).f0)) ∧ w'.cell? ⟨gb128, 1, none⟩ = some (.int .i64 ((rd_T100 t106 x9_1).f1)) ∧ w'.cell? ⟨gb128, 2, none⟩ = some (.int .u8 ((rd_T100 t106 x9_1).f2))) (ds := []) #[false, false, false, false, false, false] (by kernel_rfl) rfl rfl ⟨(blk_cell BK128.out 0).trans rfl, (blk_cell BK128.out 1).trans rfl, (blk_cell BK128.out 2).trans rfl⟩ (fun hHeld => ?_)
                        generalize w33.drew = w34 at HO_5 HO_8 BK101 BK128 HB hHeld ⊢
                        refine pure_ (i := 1) (N := some 50) (v := ?_) (a' := ?_) #[false, true, false, false, false, false] rfl rfl (by kernel_rfl) (fun _ _ _ h => h) (Or.inl ⟨by rfl, ?_⟩) ?_ ?_
                        rotate_left
                        · intro w'
                          go_simp
                          with_reducible rfl
                        rotate_left
                        · simp only [Act.put, List.setIfInBounds_toArray, List.set_cons_zero, List.set_cons_succ, i64_w, i32_w]
                          rfl
                        refine take_ (i := 2) (N := some 51) (v := ?_) (a' := ?_) #[false, true, true, false, false, false] rfl rfl (by kernel_rfl) (fun _ _ _ h => h) (Or.inl ⟨by rfl, ?_⟩) hHeld ?_ ?_
                        rotate_left
                        · rintro w' ⟨s0, s1, s2⟩
                          go_simp
                          with_reducible rfl
                        rotate_left
                        · simp only [Act.put, List.setIfInBounds_toArray, List.set_cons_zero, List.set_cons_succ, i64_w, i32_w]
                          rfl
                        refine one_ (i := 0) (N := some 49) #[true, true, true, false, false, false] rfl rfl (by kernel_rfl) (by decide) (fun K hK => ?_)
                        refine goes_ Try.func60 (by kernel_rfl) rfl #[] (by rfl) rfl rfl (by (try simp only [List.map_toArray, List.map_cons, List.map_nil]); first | done | rfl | (simp only [List.length_drop, List.length_take]; rfl)) ?_
                        with_reducible refine (sloperef3_none.calls  t129 t130 _ A29.out).mono ?_
                        rintro e w35 ⟨v131, rfl, ho0, hb⟩
                        refine ⟨_, rfl, ?_⟩
                        have n0_ := Aside0.mk (Kd.R_below (by (with_reducible repeat (first | apply Kd.R_alloc | apply Kd.R_drewN | apply Kd.R_drew)); exact HO_5.out) hb)
                        have n1_ := Aside0.mk (Kd.R_below (by (with_reducible repeat (first | apply Kd.R_alloc | apply Kd.R_drewN | apply Kd.R_drew)); exact HO_8.out) hb)
                        have n2_ := Aside0.mk (Kd.R_lower ho0 (below_size (by repeat (first | (with_reducible first | exact HB.out | apply below_alloc | apply pw_below_drewN | apply below_drew1 | refine below_set ?_ GE101.out | refine below_set ?_ GE128.out) | exact HB.out))))
                        have n3_ := Aside0.mk (blk_below (g := gb101) (o := .cells #[.int .i64 x102000_1, .slice none 0 0] 26 (0, 0)) (by (with_reducible repeat (first | refine blk_drewN ?_ _ | refine blk_drew ?_ | refine blk_alloc ?_ _)); exact BK101.out) hb)
                        have n4_ := Aside0.mk (blk_below (g := gb128) (o := .cells #[.int .i64 ((rd_T100 t106 x9_1).f0), .int .i64 ((rd_T100 t106 x9_1).f1), .int .u8 ((rd_T100 t106 x9_1).f2)] 100 (0, 0)) (by (with_reducible repeat (first | refine blk_drewN ?_ _ | refine blk_drew ?_ | refine blk_alloc ?_ _)); exact BK128.out) hb)
                        have n5_ := Aside0.mk (below_step (by repeat (first | (with_reducible first | exact HB.out | apply below_alloc | apply pw_below_drewN | apply below_drew1 | refine below_set ?_ GE101.out | refine below_set ?_ GE128.out) | exact HB.out)) hb)
                        clear HO_5
                        clear HO_8
                        clear BK101
                        clear BK128
                        clear HB
                        have HO_5 := n0_
                        have HO_8 := n1_
                        have HO132 := n2_
                        have BK101 := n3_
                        have BK128 := n4_
                        have HB := n5_
                        clear n0_ n1_ n2_ n3_ n4_ n5_
                        (try clear hb)
                        (try clear hb2)
                        (try clear hk)
                        (try clear hi)
                        (try clear ho0)
                        obtain ⟨Ao37, co37, eo37⟩ := Kd.R_slice HO132.out
                        (first | subst eo37 | (injection eo37 with f1_ f2_ f3_; have f4_ := f1_.symm; have f5_ := f3_.symm; clear f1_ f2_ f3_; subst f4_; subst f5_))
                        refine hK.out _ _ ⟨(blk_cell BK128.out 0).trans rfl, (blk_cell BK128.out 1).trans rfl, (blk_cell BK128.out 2).trans rfl⟩ (fun hHeld => ?_)
                        clear hK K
                        refine norm_ (a' := ?_) ?_ ?_
                        rotate_left
                        · show Act.put _ (some 49) _ = _
                          simp only [Act.put, List.setIfInBounds_toArray, List.set_cons_zero, List.set_cons_succ, i64_w, i32_w]
                          rfl
                        refine one_ (i := 3) (N := none) #[true, true, true, true, false, false] rfl rfl (by kernel_rfl) (by decide) (fun K hK => ?_)
                        have hs36 : w35.cell? ⟨gb101, 0, none⟩ = some (.int .i64 x102000_1) := (blk_cell BK101.out 0).trans rfl
                        have hfs36 := blk_frozen BK101.out 0
                        have hns36_1 := NB128_101.out
                        have hms36_1 := NB101_128.out
                        have hs38 : w35.cell? ⟨gb101, 1, none⟩ = some (.slice none 0 0) := (blk_cell BK101.out 1).trans rfl
                        have hfs38 := blk_frozen BK101.out 1
                        have hns38_1 := NB128_101.out
                        have hms38_1 := NB101_128.out
                        refine skip_ (w1 := ?_) (by rfl) rfl ?_ ?_
                        rotate_left
                        · go_simp
                          rfl
                        refine hK.out _ _ ⟨((cell_far (p := ⟨gb101, _, none⟩) NB128_101.out _).trans (((cell_far (p := ⟨gb101, _, none⟩) NB128_101.out _).trans (hHeld.1)))), ((cell_far (p := ⟨gb101, _, none⟩) NB128_101.out _).trans (((cell_far (p := ⟨gb101, _, none⟩) NB128_101.out _).trans (hHeld.2.1)))), ((cell_far (p := ⟨gb101, _, none⟩) NB128_101.out _).trans (((cell_far (p := ⟨gb101, _, none⟩) NB128_101.out _).trans (hHeld.2.2))))⟩ (fun hHeld => ?_)
                        clear hK K
                        refine pure_ (i := 4) (N := some 3) (v := ?_) (a' := ?_) #[true, true, true, true, true, false] rfl rfl (by kernel_rfl) (fun _ _ _ h => h) (Or.inl ⟨by rfl, ?_⟩) ?_ ?_
                        rotate_left
                        · intro w'
                          go_simp
                          with_reducible rfl
                        rotate_left
                        · simp only [Act.put, List.setIfInBounds_toArray, List.set_cons_zero, List.set_cons_succ, i64_w, i32_w]
                          rfl
                        refine pure_ (i := 5) (N := some 4) (v := ?_) (a' := ?_) #[true, true, true, true, true, true] rfl rfl (by kernel_rfl) (fun _ _ _ h => h) (Or.inl ⟨by rfl, ?_⟩) ?_ ?_
                        rotate_left
                        · intro w'
                          go_simp
                          with_reducible rfl
                        rotate_left
                        · simp only [Act.put, List.setIfInBounds_toArray, List.set_cons_zero, List.set_cons_succ, i64_w, i32_w]
                          rfl
                        refine done_ (by kernel_rfl) ?_
                        try go_wp2
                        refine bodyPost_ret (results_ctt rfl _ _ gb101 26 #[.int .i64 t129, .slice Ao37 t130.length co37] (0, 0) _ rfl (by (with_reducible repeat (first | refine blk_drewN ?_ _ | refine blk_drew ?_ | refine blk_alloc ?_ _)); refine blk_put (cs := #[.int .i64 t129, .slice none 0 0]) ?_ 1 _ rfl; (with_reducible repeat (first | refine blk_drewN ?_ _ | refine blk_drew ?_ | refine blk_alloc ?_ _)); refine blk_put (cs := #[.int .i64 x102000_1, .slice none 0 0]) ?_ 0 _ rfl; (with_reducible repeat (first | refine blk_drewN ?_ _ | refine blk_drew ?_ | refine blk_alloc ?_ _)); exact BK101.out) Try.underlying26 rfl (by kernel_rfl)) rfl ?_
                        exact ⟨_, by first | rfl | (simp [errW_none, errW_some] <;> rfl) | (simp [*, errW_none, errW_some] <;> rfl), by (with_reducible repeat (first | apply Kd.R_alloc | apply Kd.R_drewN | apply Kd.R_drew)); exact Kd.R_mono (Kd.R_far (p := ⟨gb101, 1, none⟩) (Kd.R_far (p := ⟨gb101, 0, none⟩) (Kd.R_types HO132.out BK101.out (by decide)) (fun _ hk => hk.2) (.int .i64 t129)) (fun _ hk => hk.2) (.slice Ao37 t130.length co37)) (fun _ hk => trivial), by repeat (first | (with_reducible first | exact HB.out | apply below_alloc | apply pw_below_drewN | apply below_drew1 | refine below_set ?_ GE101.out | refine below_set ?_ GE128.out) | exact HB.out)⟩
                      · rw [if_neg c28] at H
                        have c28b0 : decide (((rd_T100 t106 0).f0) ≤ ((rd_T100 t106 x9_1).f0)) = false := decide_eq_false c28
                        clear c28
                        obtain ⟨ji39, hji39⟩ : ∃ j_ : Int, (wrap64 (x9_1 - 1)) = j_ := ⟨_, rfl⟩
                        replace H : (if 0 ≤ (ji39) then (if (ji39) < (t106.length : Int) then (if ((rd_T100 t106 (ji39)).f2) = 45 then (if ((rd_T100 t106 x9_1).f0) ≤ ((rd_T100 t106 (ji39)).f0) then ((sloperef3_none.f).bind fun bt135 => (some (bt135.1, bt135.2, (rd_T100 t106 x9_1).f1, 1))) else (sloperef3_Parse.l1 k1 t106 ((rd_T100 t106 0).f0) x8_1 x9_1 ((rd_T100 t106 (ji39)).f0) ((rd_T100 t106 x9_1).f0) ((rd_T100 t106 x9_1).f1) ((rd_T100 t106 x9_1).f2))) else (if x9_1 > 1 then (if ((rd_T100 t106 x9_1).f0) < (wrap64 (((rd_T100 t106 (ji39)).f0) + 2)) then ((sloperef3_none.f).bind fun bt143 => (some (bt143.1, bt143.2, (rd_T100 t106 x9_1).f1, 1))) else (if 0 ≤ ((rd_T100 t106 x9_1).f0) then (if ((rd_T100 t106 x9_1).f0) < (x8_1.length : Int) then (sloperef3_Parse.l0 k1 t106 ((rd_T100 t106 0).f0) (x8_1.set (((rd_T100 t106 x9_1).f0) : Int).toNat true) (wrap64 (x9_1 + 1))) else (none)) else (none))) else (if 0 ≤ ((rd_T100 t106 x9_1).f0) then (if ((rd_T100 t106 x9_1).f0) < (x8_1.length : Int) then (sloperef3_Parse.l0 k1 t106 ((rd_T100 t106 0).f0) (x8_1.set (((rd_T100 t106 x9_1).f0) : Int).toNat true) (wrap64 (x9_1 + 1))) else (none)) else (none)))) else (none)) else (none)) = some (r1, r2, r3, r4) := by first | (rw [hji39] at H; exact H) | (simp only [hji39] at H ⊢; exact H)
                        have hji39w : (IntKind.i64.wrap (x9_1 - 1)) = ji39 := (i64_w _).trans hji39
                        by_cases c40 : 0 ≤ (ji39)
                        · rw [if_pos c40] at H
                          have c40b0 : decide (0 ≤ (ji39)) = true := decide_eq_true c40
                          clear c40
                          by_cases c41 : (ji39) < (t106.length : Int)
                          · rw [if_pos c41] at H
                            have c41b0 : decide ((ji39) < (t106.length : Int)) = true := decide_eq_true c41
                            clear c41
                            by_cases c42 : ((rd_T100 t106 (ji39)).f2) = 45
                            · rw [if_pos c42] at H
                              have c42b0 : (((rd_T100 t106 (ji39)).f2) == 45) = true := beq_iff_eq.mpr c42
                              have c42b1 : (((rd_T100 t106 (ji39)).f2) != 45) = false := bne_eq_false_iff_eq.mpr c42
                              clear c42
                              by_cases c43 : ((rd_T100 t106 x9_1).f0) ≤ ((rd_T100 t106 (ji39)).f0)
                              · rw [if_pos c43] at H
                                have c43b0 : decide (((rd_T100 t106 x9_1).f0) ≤ ((rd_T100 t106 (ji39)).f0)) = true := decide_eq_true c43
                                clear c43
                                replace H := Option.bind_eq_some_iff.mp H
                                obtain ⟨⟨t135, t136⟩, A440, H⟩ := H
                                replace H : (some (t135, t136, (rd_T100 t106 x9_1).f1, 1)) = some (r1, r2, r3, r4) := H
                                have A44 := Aside0.mk A440
                                clear A440
                                simp only [Option.some.injEq, Prod.mk.injEq] at H
                                obtain ⟨rfl, rfl, rfl, rfl⟩ := H
                                have p127 : 0 ≤ (x9_1 : Int) := of_decide_eq_true (by first | (with_reducible assumption) | assumption)
                                have q127 : x9_1 < (t106.length : Int) := of_decide_eq_true (by first | (with_reducible assumption) | assumption)
                                obtain ⟨ad127, e127, hx127_0, hx127_1, hx127_2⟩ := at_T100 (Kd.R_reads' HO_5.out).2.2 x9_1 p127 q127
                                obtain rfl : ad114 = ad127 := (by injection e127)
                                replace p127 := eq_true p127
                                replace q127 := eq_true q127
                                try go_wp2_with (first | ((with_reducible refine gate_dst (N := 10) rfl ?_); refine box_event ?hg (N := 10) ?hd (cs := #[.int .i64 0, .int .i64 0, .int .u8 0]) (t := 100) ?hr ?_; (case hd => rfl); (case hg => rfl); (case hr => first | (go_simp; done) | (go_simp; rfl)); intro gb128 hg w45 hbox hb; have n0_ := Aside0.mk (Kd.R_below (Kd.R_elderB (by (with_reducible repeat (first | apply Kd.R_alloc | apply Kd.R_drewN | apply Kd.R_drew)); exact HO_5.out) gb128 (Nat.le_of_eq hg.symm)) hb); have n1_ := Aside0.mk (Kd.R_below (by (with_reducible repeat (first | apply Kd.R_alloc | apply Kd.R_drewN | apply Kd.R_drew)); exact HO_8.out) hb); have n2_ := Aside0.mk (blk_below (g := gb101) (o := .cells #[.int .i64 x102000_1, .slice none 0 0] 26 (0, 0)) (by (with_reducible repeat (first | refine blk_drewN ?_ _ | refine blk_drew ?_ | refine blk_alloc ?_ _)); exact BK101.out) hb); have n3_ := Aside0.mk (below_step (by repeat (first | (with_reducible first | exact HB.out | apply below_alloc | apply pw_below_drewN | apply below_drew1 | refine below_set ?_ GE101.out) | exact HB.out)) hb); have n4_ := Aside0.mk (hbox); have n5_ := Aside0.mk ((by rw [hg]; exact (below_size (by repeat (first | (with_reducible first | exact HB.out | apply below_alloc | apply pw_below_drewN | apply below_drew1 | refine below_set ?_ GE101.out) | exact HB.out))) : w.heap.size ≤ gb128)); have n6_ := Aside0.mk ((by rw [hg]; exact (below_size (by repeat (first | (with_reducible first | exact HB.out | apply below_alloc | apply pw_below_drewN | apply below_drew1 | refine below_set ?_ GE101.out) | exact HB.out))) : w.heap.size ≤ gb128)); have n7_ := Aside0.mk ((by rw [hg]; exact Nat.ne_of_lt (blk_lt (g := gb101) (o := .cells #[.int .i64 x102000_1, .slice none 0 0] 26 (0, 0)) (by (with_reducible repeat (first | refine blk_drewN ?_ _ | refine blk_drew ?_ | refine blk_alloc ?_ _)); exact BK101.out)) : gb101 ≠ gb128)); have n8_ := Aside0.mk ((by rw [hg]; exact Nat.ne_of_gt (blk_lt (g := gb101) (o := .cells #[.int .i64 x102000_1, .slice none 0 0] 26 (0, 0)) (by (with_reducible repeat (first | refine blk_drewN ?_ _ | refine blk_drew ?_ | refine blk_alloc ?_ _)); exact BK101.out)) : gb128 ≠ gb101)); clear HO_5; clear HO_8; clear BK101; clear HB; have HO_5 := n0_; have HO_8 := n1_; have BK101 := n2_; have HB := n3_; have BK128 := n4_; have GW128 := n5_; have GE128 := n6_; have NB101_128 := n7_; have NB128_101 := n8_; clear n0_ n1_ n2_ n3_ n4_ n5_ n6_ n7_ n8_; clear hb hbox hg; have hnb46 := NB128_101.out; have hnc46 := NB101_128.out; have hcz47_0 : w45.cell? ⟨gb128, 0, none⟩ = some (.int .i64 0) := (blk_cell BK128.out 0).trans rfl; have hcz47_1 : w45.cell? ⟨gb128, 1, none⟩ = some (.int .i64 0) := (blk_cell BK128.out 1).trans rfl; have hcz47_2 : w45.cell? ⟨gb128, 2, none⟩ = some (.int .u8 0) := (blk_cell BK128.out 2).trans rfl; have hfz47_0 := blk_frozen BK128.out 0; have hfz47_1 := blk_frozen BK128.out 1; have hfz47_2 := blk_frozen BK128.out 2; have p133 : 0 ≤ ((ji39) : Int) := of_decide_eq_true (by first | (with_reducible assumption) | assumption); have q133 : (ji39) < (t106.length : Int) := of_decide_eq_true (by first | (with_reducible assumption) | assumption); obtain ⟨ad133, e133, hx133_0, hx133_1, hx133_2⟩ := at_T100 (Kd.R_reads' HO_5.out).2.2 (ji39) p133 q133; obtain rfl : ad114 = ad133 := (by injection e133); have hn133_0 : ad114.block ≠ gb128 := Kd.own_blk ((fun e_ => by have h_ := HO_5.out.1 _ e_.symm; first | exact h_ rfl | exact h_.2 rfl)); have hn133_1 : ad114.block ≠ gb128 := Kd.own_blk ((fun e_ => by have h_ := HO_5.out.1 _ e_.symm; first | exact h_ rfl | exact h_.2 rfl)); have hn133_2 : ad114.block ≠ gb128 := Kd.own_blk ((fun e_ => by have h_ := HO_5.out.1 _ e_.symm; first | exact h_ rfl | exact h_.2 rfl)); replace hx133_0 := (cell_far (p := ⟨gb128, 0, none⟩) (by first | (rw [add_block]; exact hn133_0) | (show (Addr.add _ _).block ≠ _; rw [add_block]; exact hn133_0) | exact hn133_0) (.int .i64 ((rd_T100 t106 x9_1).f0))).trans hx133_0; replace hx133_1 := (cell_far (p := ⟨gb128, 0, none⟩) (by first | (rw [add_block]; exact hn133_0) | (show (Addr.add _ _).block ≠ _; rw [add_block]; exact hn133_0) | exact hn133_0) (.int .i64 ((rd_T100 t106 x9_1).f0))).trans hx133_1; replace hx133_2 := (cell_far (p := ⟨gb128, 0, none⟩) (by first | (rw [add_block]; exact hn133_0) | (show (Addr.add _ _).block ≠ _; rw [add_block]; exact hn133_0) | exact hn133_0) (.int .i64 ((rd_T100 t106 x9_1).f0))).trans hx133_2; replace hx133_0 := (cell_far (p := ⟨gb128, 1, none⟩) (by first | (rw [add_block]; exact hn133_1) | (show (Addr.add _ _).block ≠ _; rw [add_block]; exact hn133_1) | exact hn133_1) (.int .i64 ((rd_T100 t106 x9_1).f1))).trans hx133_0; replace hx133_1 := (cell_far (p := ⟨gb128, 1, none⟩) (by first | (rw [add_block]; exact hn133_1) | (show (Addr.add _ _).block ≠ _; rw [add_block]; exact hn133_1) | exact hn133_1) (.int .i64 ((rd_T100 t106 x9_1).f1))).trans hx133_1; replace hx133_2 := (cell_far (p := ⟨gb128, 1, none⟩) (by first | (rw [add_block]; exact hn133_1) | (show (Addr.add _ _).block ≠ _; rw [add_block]; exact hn133_1) | exact hn133_1) (.int .i64 ((rd_T100 t106 x9_1).f1))).trans hx133_2; replace hx133_0 := (cell_far (p := ⟨gb128, 2, none⟩) (by first | (rw [add_block]; exact hn133_2) | (show (Addr.add _ _).block ≠ _; rw [add_block]; exact hn133_2) | exact hn133_2) (.int .u8 ((rd_T100 t106 x9_1).f2))).trans hx133_0; replace hx133_1 := (cell_far (p := ⟨gb128, 2, none⟩) (by first | (rw [add_block]; exact hn133_2) | (show (Addr.add _ _).block ≠ _; rw [add_block]; exact hn133_2) | exact hn133_2) (.int .u8 ((rd_T100 t106 x9_1).f2))).trans hx133_1; replace hx133_2 := (cell_far (p := ⟨gb128, 2, none⟩) (by first | (rw [add_block]; exact hn133_2) | (show (Addr.add _ _).block ≠ _; rw [add_block]; exact hn133_2) | exact hn133_2) (.int .u8 ((rd_T100 t106 x9_1).f2))).trans hx133_2; clear hn133_0; clear hn133_1; clear hn133_2; replace p133 := eq_true p133; replace q133 := eq_true q133))
                                have n0_ : Aside0 (Kd.R k100 100 (((w45.setCell ⟨gb128, 0, none⟩ (.int .i64 ((rd_T100 t106 x9_1).f0))).setCell ⟨gb128, 1, none⟩ (.int .i64 ((rd_T100 t106 x9_1).f1))).setCell ⟨gb128, 2, none⟩ (.int .u8 ((rd_T100 t106 x9_1).f2))) w.heap.size (fun k_ => k_ ≠ gb128) (.slice (some ad114) t106.length co23) t106) := ⟨by (with_reducible repeat (first | apply Kd.R_alloc | apply Kd.R_drewN | apply Kd.R_drew)); exact Kd.R_mono (Kd.R_far (p := ⟨gb128, 2, none⟩) (Kd.R_far (p := ⟨gb128, 1, none⟩) (Kd.R_far (p := ⟨gb128, 0, none⟩) (Kd.R_mono HO_5.out (fun k_ hk => (⟨hk, hk.2⟩ : _ ∧ k_ ≠ gb128))) (fun _ hk => hk.2) (.int .i64 ((rd_T100 t106 x9_1).f0))) (fun _ hk => hk.2) (.int .i64 ((rd_T100 t106 x9_1).f1))) (fun _ hk => hk.2) (.int .u8 ((rd_T100 t106 x9_1).f2))) (fun _ hk => hk.1.2)⟩
                                have n1_ : Aside0 (Kd.R Kd.bool 4 (((w45.setCell ⟨gb128, 0, none⟩ (.int .i64 ((rd_T100 t106 x9_1).f0))).setCell ⟨gb128, 1, none⟩ (.int .i64 ((rd_T100 t106 x9_1).f1))).setCell ⟨gb128, 2, none⟩ (.int .u8 ((rd_T100 t106 x9_1).f2))) w.heap.size (fun _ => True) v121 x8_1) := ⟨by (with_reducible repeat (first | apply Kd.R_alloc | apply Kd.R_drewN | apply Kd.R_drew)); exact Kd.R_mono (Kd.R_far (p := ⟨gb128, 2, none⟩) (Kd.R_far (p := ⟨gb128, 1, none⟩) (Kd.R_far (p := ⟨gb128, 0, none⟩) (Kd.R_types HO_8.out BK128.out (by decide)) (fun _ hk => hk.2) (.int .i64 ((rd_T100 t106 x9_1).f0))) (fun _ hk => hk.2) (.int .i64 ((rd_T100 t106 x9_1).f1))) (fun _ hk => hk.2) (.int .u8 ((rd_T100 t106 x9_1).f2))) (fun _ hk => trivial)⟩
                                have n2_ : Aside0 ((((w45.setCell ⟨gb128, 0, none⟩ (.int .i64 ((rd_T100 t106 x9_1).f0))).setCell ⟨gb128, 1, none⟩ (.int .i64 ((rd_T100 t106 x9_1).f1))).setCell ⟨gb128, 2, none⟩ (.int .u8 ((rd_T100 t106 x9_1).f2))).heap[gb101]? = some (.cells #[.int .i64 x102000_1, .slice none 0 0] 26 (0, 0))) := ⟨by (with_reducible repeat (first | refine blk_drewN ?_ _ | refine blk_drew ?_ | refine blk_alloc ?_ _)); refine blk_far ?_ NB101_128.out _; (with_reducible repeat (first | refine blk_drewN ?_ _ | refine blk_drew ?_ | refine blk_alloc ?_ _)); refine blk_far ?_ NB101_128.out _; (with_reducible repeat (first | refine blk_drewN ?_ _ | refine blk_drew ?_ | refine blk_alloc ?_ _)); refine blk_far ?_ NB101_128.out _; (with_reducible repeat (first | refine blk_drewN ?_ _ | refine blk_drew ?_ | refine blk_alloc ?_ _)); exact BK101.out⟩
                                have n3_ : Aside0 ((((w45.setCell ⟨gb128, 0, none⟩ (.int .i64 ((rd_T100 t106 x9_1).f0))).setCell ⟨gb128, 1, none⟩ (.int .i64 ((rd_T100 t106 x9_1).f1))).setCell ⟨gb128, 2, none⟩ (.int .u8 ((rd_T100 t106 x9_1).f2))).heap[gb128]? = some (.cells #[.int .i64 ((rd_T100 t106 x9_1).f0), .int .i64 ((rd_T100 t106 x9_1).f1), .int .u8 ((rd_T100 t106 x9_1).f2)] 100 (0, 0))) := ⟨by (with_reducible repeat (first | refine blk_drewN ?_ _ | refine blk_drew ?_ | refine blk_alloc ?_ _)); refine blk_put (cs := #[.int .i64 ((rd_T100 t106 x9_1).f0), .int .i64 ((rd_T100 t106 x9_1).f1), .int .u8 0]) ?_ 2 _ rfl; (with_reducible repeat (first | refine blk_drewN ?_ _ | refine blk_drew ?_ | refine blk_alloc ?_ _)); refine blk_put (cs := #[.int .i64 ((rd_T100 t106 x9_1).f0), .int .i64 0, .int .u8 0]) ?_ 1 _ rfl; (with_reducible repeat (first | refine blk_drewN ?_ _ | refine blk_drew ?_ | refine blk_alloc ?_ _)); refine blk_put (cs := #[.int .i64 0, .int .i64 0, .int .u8 0]) ?_ 0 _ rfl; (with_reducible repeat (first | refine blk_drewN ?_ _ | refine blk_drew ?_ | refine blk_alloc ?_ _)); exact BK128.out⟩
                                have n4_ : Aside0 (Below w.heap.size w (((w45.setCell ⟨gb128, 0, none⟩ (.int .i64 ((rd_T100 t106 x9_1).f0))).setCell ⟨gb128, 1, none⟩ (.int .i64 ((rd_T100 t106 x9_1).f1))).setCell ⟨gb128, 2, none⟩ (.int .u8 ((rd_T100 t106 x9_1).f2)))) := ⟨by repeat (first | (with_reducible first | exact HB.out | apply below_alloc | apply pw_below_drewN | apply below_drew1 | refine below_set ?_ GE101.out | refine below_set ?_ GE128.out) | exact HB.out)⟩
                                (try clear HO_5)
                                (try clear HO_8)
                                (try clear BK101)
                                (try clear BK128)
                                (try clear HB)
                                generalize (((w45.setCell ⟨gb128, 0, none⟩ (.int .i64 ((rd_T100 t106 x9_1).f0))).setCell ⟨gb128, 1, none⟩ (.int .i64 ((rd_T100 t106 x9_1).f1))).setCell ⟨gb128, 2, none⟩ (.int .u8 ((rd_T100 t106 x9_1).f2))) = w48 at n0_ n1_ n2_ n3_ n4_ ⊢
                                have HO_5 := n0_
                                have HO_8 := n1_
                                have BK101 := n2_
                                have BK128 := n3_
                                have HB := n4_
                                clear n0_ n1_ n2_ n3_ n4_
                                have n0_ := Aside0.mk (Kd.R_drew HO_5.out)
                                have n1_ := Aside0.mk (Kd.R_drew HO_8.out)
                                have n2_ := Aside0.mk (blk_drew BK101.out)
                                have n3_ := Aside0.mk (blk_drew BK128.out)
                                have n4_ := Aside0.mk (below_drew1 HB.out)
                                clear HO_5
                                clear HO_8
                                clear BK101
                                clear BK128
                                clear HB
                                have HO_5 := n0_
                                have HO_8 := n1_
                                have BK101 := n2_
                                have BK128 := n3_
                                have HB := n4_
                                clear n0_ n1_ n2_ n3_ n4_
                                have p134 : 0 ≤ ((ji39) : Int) := of_decide_eq_true (by first | (with_reducible assumption) | assumption)
                                have q134 : (ji39) < (t106.length : Int) := of_decide_eq_true (by first | (with_reducible assumption) | assumption)
                                obtain ⟨ad134, e134, hx134_0, hx134_1, hx134_2⟩ := at_T100 (Kd.R_reads' HO_5.out).2.2 (ji39) p134 q134
                                obtain rfl : ad114 = ad134 := (by injection e134)
                                replace p134 := eq_true p134
                                replace q134 := eq_true q134
                                refine start_ (n := 9) (S := fun w' => w'.cell? ⟨gb128, 0, none⟩ = some (.int .i64 ((rd_T100 t106 x9_1).f0)) ∧ w'.cell? ⟨gb128, 1, none⟩ = some (.int .i64 ((rd_T100 t106 x9_1).f1)) ∧ w'.cell? ⟨gb128, 2, none⟩ = some (.int .u8 ((rd_T100 t106 x9_1).f2)) ∧ w'.cell? (ad114.add (((ji39)).toNat * 3)) = some (.int .i64 ((rd_T100 t106 (ji39)).f0)) ∧ w'.cell? ⟨(ad114.add (((ji39)).toNat * 3)).block, (ad114.add (((ji39)).toNat * 3)).off + 1, none⟩ = some (.int .i64 ((rd_T100 t106 (ji39)).f1)) ∧ w'.cell? ⟨(ad114.add (((ji39)).toNat * 3)).block, (ad114.add (((ji39)).toNat * 3)).off + 2, none⟩ = some (.int .u8 ((rd_T100 t106 (ji39)).f2))) (ds := []) #[false, false, false, false, false, false, false, false, false] (by kernel_rfl) rfl rfl ⟨(blk_cell BK128.out 0).trans rfl, (blk_cell BK128.out 1).trans rfl, (blk_cell BK128.out 2).trans rfl, hx134_0, hx134_1, hx134_2⟩ (fun hHeld => ?_); refine with_tabW sloperef3_Parse.tab17 sloperef3_Parse.bits17 (fun HT_ HW_ => ?_)
                                generalize w48.drew = w49 at HO_5 HO_8 BK101 BK128 HB hx134_0 hx134_1 hx134_2 hHeld ⊢
                                refine pure_ (i := 0) (N := some 59) (v := ?_) (a' := ?_) #[true, false, false, false, false, false, false, false, false] rfl rfl (any_of HT_.out (by kernel_rfl)) (fun _ _ _ h => h) (Or.inl ⟨by rfl, ?_⟩) ?_ ?_
                                rotate_left
                                · intro w'
                                  go_simp
                                  with_reducible rfl
                                rotate_left
                                · simp only [Act.put, List.setIfInBounds_toArray, List.set_cons_zero, List.set_cons_succ, i64_w, i32_w]
                                  rfl
                                refine pure_ (i := 2) (N := some 61) (v := ?_) (a' := ?_) #[true, false, true, false, false, false, false, false, false] rfl rfl (any_of HT_.out (by kernel_rfl)) (fun _ _ _ h => h) (Or.inl ⟨by rfl, ?_⟩) ?_ ?_
                                rotate_left
                                · intro w'
                                  go_simp
                                  with_reducible rfl
                                rotate_left
                                · simp only [Act.put, List.setIfInBounds_toArray, List.set_cons_zero, List.set_cons_succ, i64_w, i32_w]
                                  rfl
                                refine pure_ (i := 3) (N := some 62) (v := ?_) (a' := ?_) #[true, false, true, true, false, false, false, false, false] rfl rfl (any_of HT_.out (by kernel_rfl)) (fun _ _ _ h => h) (Or.inl ⟨by rfl, ?_⟩) ?_ ?_
                                rotate_left
                                · intro w'
                                  go_simp
                                  with_reducible rfl
                                rotate_left
                                · simp only [Act.put, List.setIfInBounds_toArray, List.set_cons_zero, List.set_cons_succ, i64_w, i32_w]
                                  rfl
                                refine pure_ (i := 4) (N := some 63) (v := ?_) (a' := ?_) #[true, false, true, true, true, false, false, false, false] rfl rfl (any_of HT_.out (by kernel_rfl)) (fun _ _ _ h => h) (Or.inl ⟨by rfl, ?_⟩) ?_ ?_
                                rotate_left
                                · intro w'
                                  go_simp
                                  with_reducible rfl
                                rotate_left
                                · simp only [Act.put, List.setIfInBounds_toArray, List.set_cons_zero, List.set_cons_succ, i64_w, i32_w]
                                  rfl
                                refine pure_ (i := 5) (N := some 64) (v := ?_) (a' := ?_) #[true, false, true, true, true, true, false, false, false] rfl rfl (any_of HT_.out (by kernel_rfl)) (fun _ _ _ h => h) (Or.inl ⟨by rfl, ?_⟩) ?_ ?_
                                rotate_left
                                · intro w'
                                  go_simp
                                  with_reducible rfl
                                rotate_left
                                · simp only [Act.put, List.setIfInBounds_toArray, List.set_cons_zero, List.set_cons_succ, i64_w, i32_w]
                                  rfl
                                refine pure_ (i := 6) (N := some 65) (v := ?_) (a' := ?_) #[true, false, true, true, true, true, true, false, false] rfl rfl (any_of HT_.out (by kernel_rfl)) (fun _ _ _ h => h) (Or.inl ⟨by rfl, ?_⟩) ?_ ?_
                                rotate_left
                                · intro w'
                                  go_simp
                                  with_reducible rfl
                                rotate_left
                                · simp only [Act.put, List.setIfInBounds_toArray, List.set_cons_zero, List.set_cons_succ, i64_w, i32_w]
                                  rfl
                                refine take_ (i := 1) (N := some 60) (v := ?_) (a' := ?_) #[true, true, true, true, true, true, true, false, false] rfl rfl (take_ofW HT_.out HW_.out (by kernel_rfl)) (fun _ _ _ h => h) (Or.inl ⟨by rfl, ?_⟩) hHeld ?_ ?_
                                rotate_left
                                · rintro w' ⟨s0, s1, s2, s3, s4, s5⟩
                                  go_simp
                                  with_reducible rfl
                                rotate_left
                                · simp only [Act.put, List.setIfInBounds_toArray, List.set_cons_zero, List.set_cons_succ, i64_w, i32_w]
                                  rfl
                                refine take_ (i := 7) (N := some 66) (v := ?_) (a' := ?_) #[true, true, true, true, true, true, true, true, false] rfl rfl (take_ofW HT_.out HW_.out (by kernel_rfl)) (fun _ _ _ h => h) (Or.inl ⟨by rfl, ?_⟩) hHeld ?_ ?_
                                rotate_left
                                · rintro w' ⟨s0, s1, s2, s3, s4, s5⟩
                                  go_simp
                                  with_reducible rfl
                                rotate_left
                                · simp only [Act.put, List.setIfInBounds_toArray, List.set_cons_zero, List.set_cons_succ, i64_w, i32_w]
                                  rfl
                                refine pure_ (i := 8) (N := some 67) (v := ?_) (a' := ?_) #[true, true, true, true, true, true, true, true, true] rfl rfl (any_of HT_.out (by kernel_rfl)) (fun _ _ _ h => h) (Or.inl ⟨by rfl, ?_⟩) ?_ ?_
                                rotate_left
                                · intro w'
                                  go_simp
                                  with_reducible rfl
                                rotate_left
                                · simp only [Act.put, List.setIfInBounds_toArray, List.set_cons_zero, List.set_cons_succ, i64_w, i32_w]
                                  rfl
                                refine done_ (done_of HT_.out (by kernel_rfl)) ?_
                                try go_wp2
                                have n0_ := Aside0.mk (Kd.R_drew HO_5.out)
                                have n1_ := Aside0.mk (Kd.R_drew HO_8.out)
                                have n2_ := Aside0.mk (blk_drew BK101.out)
                                have n3_ := Aside0.mk (blk_drew BK128.out)
                                have n4_ := Aside0.mk (below_drew1 HB.out)
                                clear HO_5
                                clear HO_8
                                clear BK101
                                clear BK128
                                clear HB
                                have HO_5 := n0_
                                have HO_8 := n1_
                                have BK101 := n2_
                                have BK128 := n3_
                                have HB := n4_
                                clear n0_ n1_ n2_ n3_ n4_
                                refine start_ (n := 6) (S := fun w' => w'.cell? ⟨gb128, 0, none⟩ = some (.int .i64 ((rd_T100 t106 x9_1).f0)) ∧ w'.cell? ⟨gb128, 1, none⟩ = some (.int .i64 ((rd_T100 t106 x9_1).f1)) ∧ w'.cell? ⟨gb128, 2, none⟩ = some (.int .u8 ((rd_T100 t106 x9_1).f2))) (ds := []) #[false, false, false, false, false, false] (by kernel_rfl) rfl rfl ⟨(blk_cell BK128.out 0).trans rfl, (blk_cell BK128.out 1).trans rfl, (blk_cell BK128.out 2).trans rfl⟩ (fun hHeld => ?_)
                                generalize w49.drew = w50 at HO_5 HO_8 BK101 BK128 HB hHeld ⊢
                                refine pure_ (i := 1) (N := some 69) (v := ?_) (a' := ?_) #[false, true, false, false, false, false] rfl rfl (by kernel_rfl) (fun _ _ _ h => h) (Or.inl ⟨by rfl, ?_⟩) ?_ ?_
                                rotate_left
                                · intro w'
                                  go_simp
                                  with_reducible rfl
                                rotate_left
                                · simp only [Act.put, List.setIfInBounds_toArray, List.set_cons_zero, List.set_cons_succ, i64_w, i32_w]
                                  rfl
                                refine take_ (i := 2) (N := some 70) (v := ?_) (a' := ?_) #[false, true, true, false, false, false] rfl rfl (by kernel_rfl) (fun _ _ _ h => h) (Or.inl ⟨by rfl, ?_⟩) hHeld ?_ ?_
                                rotate_left
                                · rintro w' ⟨s0, s1, s2⟩
                                  go_simp
                                  with_reducible rfl
                                rotate_left
                                · simp only [Act.put, List.setIfInBounds_toArray, List.set_cons_zero, List.set_cons_succ, i64_w, i32_w]
                                  rfl
                                refine one_ (i := 0) (N := some 68) #[true, true, true, false, false, false] rfl rfl (by kernel_rfl) (by decide) (fun K hK => ?_)
                                refine goes_ Try.func60 (by kernel_rfl) rfl #[] (by rfl) rfl rfl (by (try simp only [List.map_toArray, List.map_cons, List.map_nil]); first | done | rfl | (simp only [List.length_drop, List.length_take]; rfl)) ?_
                                with_reducible refine (sloperef3_none.calls  t135 t136 _ A44.out).mono ?_
                                rintro e w51 ⟨v137, rfl, ho0, hb⟩
                                refine ⟨_, rfl, ?_⟩
                                have n0_ := Aside0.mk (Kd.R_below (by (with_reducible repeat (first | apply Kd.R_alloc | apply Kd.R_drewN | apply Kd.R_drew)); exact HO_5.out) hb)
                                have n1_ := Aside0.mk (Kd.R_below (by (with_reducible repeat (first | apply Kd.R_alloc | apply Kd.R_drewN | apply Kd.R_drew)); exact HO_8.out) hb)
                                have n2_ := Aside0.mk (Kd.R_lower ho0 (below_size (by repeat (first | (with_reducible first | exact HB.out | apply below_alloc | apply pw_below_drewN | apply below_drew1 | refine below_set ?_ GE101.out | refine below_set ?_ GE128.out) | exact HB.out))))
                                have n3_ := Aside0.mk (blk_below (g := gb101) (o := .cells #[.int .i64 x102000_1, .slice none 0 0] 26 (0, 0)) (by (with_reducible repeat (first | refine blk_drewN ?_ _ | refine blk_drew ?_ | refine blk_alloc ?_ _)); exact BK101.out) hb)
                                have n4_ := Aside0.mk (blk_below (g := gb128) (o := .cells #[.int .i64 ((rd_T100 t106 x9_1).f0), .int .i64 ((rd_T100 t106 x9_1).f1), .int .u8 ((rd_T100 t106 x9_1).f2)] 100 (0, 0)) (by (with_reducible repeat (first | refine blk_drewN ?_ _ | refine blk_drew ?_ | refine blk_alloc ?_ _)); exact BK128.out) hb)
                                have n5_ := Aside0.mk (below_step (by repeat (first | (with_reducible first | exact HB.out | apply below_alloc | apply pw_below_drewN | apply below_drew1 | refine below_set ?_ GE101.out | refine below_set ?_ GE128.out) | exact HB.out)) hb)
                                clear HO_5
                                clear HO_8
                                clear BK101
                                clear BK128
                                clear HB
                                have HO_5 := n0_
                                have HO_8 := n1_
                                have HO138 := n2_
                                have BK101 := n3_
                                have BK128 := n4_
                                have HB := n5_
                                clear n0_ n1_ n2_ n3_ n4_ n5_
                                (try clear hb)
                                (try clear hb2)
                                (try clear hk)
                                (try clear hi)
                                (try clear ho0)
                                obtain ⟨Ao53, co53, eo53⟩ := Kd.R_slice HO138.out
                                (first | subst eo53 | (injection eo53 with f1_ f2_ f3_; have f4_ := f1_.symm; have f5_ := f3_.symm; clear f1_ f2_ f3_; subst f4_; subst f5_))
                                refine hK.out _ _ ⟨(blk_cell BK128.out 0).trans rfl, (blk_cell BK128.out 1).trans rfl, (blk_cell BK128.out 2).trans rfl⟩ (fun hHeld => ?_)
                                clear hK K
                                refine norm_ (a' := ?_) ?_ ?_
                                rotate_left
                                · show Act.put _ (some 68) _ = _
                                  simp only [Act.put, List.setIfInBounds_toArray, List.set_cons_zero, List.set_cons_succ, i64_w, i32_w]
                                  rfl
                                refine one_ (i := 3) (N := none) #[true, true, true, true, false, false] rfl rfl (by kernel_rfl) (by decide) (fun K hK => ?_)
                                have hs52 : w51.cell? ⟨gb101, 0, none⟩ = some (.int .i64 x102000_1) := (blk_cell BK101.out 0).trans rfl
                                have hfs52 := blk_frozen BK101.out 0
                                have hns52_1 := NB128_101.out
                                have hms52_1 := NB101_128.out
                                have hs54 : w51.cell? ⟨gb101, 1, none⟩ = some (.slice none 0 0) := (blk_cell BK101.out 1).trans rfl
                                have hfs54 := blk_frozen BK101.out 1
                                have hns54_1 := NB128_101.out
                                have hms54_1 := NB101_128.out
                                refine skip_ (w1 := ?_) (by rfl) rfl ?_ ?_
                                rotate_left
                                · go_simp
                                  rfl
                                refine hK.out _ _ ⟨((cell_far (p := ⟨gb101, _, none⟩) NB128_101.out _).trans (((cell_far (p := ⟨gb101, _, none⟩) NB128_101.out _).trans (hHeld.1)))), ((cell_far (p := ⟨gb101, _, none⟩) NB128_101.out _).trans (((cell_far (p := ⟨gb101, _, none⟩) NB128_101.out _).trans (hHeld.2.1)))), ((cell_far (p := ⟨gb101, _, none⟩) NB128_101.out _).trans (((cell_far (p := ⟨gb101, _, none⟩) NB128_101.out _).trans (hHeld.2.2))))⟩ (fun hHeld => ?_)
                                clear hK K
                                refine pure_ (i := 4) (N := some 3) (v := ?_) (a' := ?_) #[true, true, true, true, true, false] rfl rfl (by kernel_rfl) (fun _ _ _ h => h) (Or.inl ⟨by rfl, ?_⟩) ?_ ?_
                                rotate_left
                                · intro w'
                                  go_simp
                                  with_reducible rfl
                                rotate_left
                                · simp only [Act.put, List.setIfInBounds_toArray, List.set_cons_zero, List.set_cons_succ, i64_w, i32_w]
                                  rfl
                                refine pure_ (i := 5) (N := some 4) (v := ?_) (a' := ?_) #[true, true, true, true, true, true] rfl rfl (by kernel_rfl) (fun _ _ _ h => h) (Or.inl ⟨by rfl, ?_⟩) ?_ ?_
                                rotate_left
                                · intro w'
                                  go_simp
                                  with_reducible rfl
                                rotate_left
                                · simp only [Act.put, List.setIfInBounds_toArray, List.set_cons_zero, List.set_cons_succ, i64_w, i32_w]
                                  rfl
                                refine done_ (by kernel_rfl) ?_
                                try go_wp2
                                refine bodyPost_ret (results_ctt rfl _ _ gb101 26 #[.int .i64 t135, .slice Ao53 t136.length co53] (0, 0) _ rfl (by (with_reducible repeat (first | refine blk_drewN ?_ _ | refine blk_drew ?_ | refine blk_alloc ?_ _)); refine blk_put (cs := #[.int .i64 t135, .slice none 0 0]) ?_ 1 _ rfl; (with_reducible repeat (first | refine blk_drewN ?_ _ | refine blk_drew ?_ | refine blk_alloc ?_ _)); refine blk_put (cs := #[.int .i64 x102000_1, .slice none 0 0]) ?_ 0 _ rfl; (with_reducible repeat (first | refine blk_drewN ?_ _ | refine blk_drew ?_ | refine blk_alloc ?_ _)); exact BK101.out) Try.underlying26 rfl (by kernel_rfl)) rfl ?_
                                exact ⟨_, by first | rfl | (simp [errW_none, errW_some] <;> rfl) | (simp only [← hji39]; first | rfl | (simp [errW_none, errW_some] <;> rfl)) | (simp [*, errW_none, errW_some] <;> rfl), by (with_reducible repeat (first | apply Kd.R_alloc | apply Kd.R_drewN | apply Kd.R_drew)); exact Kd.R_mono (Kd.R_far (p := ⟨gb101, 1, none⟩) (Kd.R_far (p := ⟨gb101, 0, none⟩) (Kd.R_types HO138.out BK101.out (by decide)) (fun _ hk => hk.2) (.int .i64 t135)) (fun _ hk => hk.2) (.slice Ao53 t136.length co53)) (fun _ hk => trivial), by repeat (first | (with_reducible first | exact HB.out | apply below_alloc | apply pw_below_drewN | apply below_drew1 | refine below_set ?_ GE101.out | refine below_set ?_ GE128.out) | exact HB.out)⟩
                              · rw [if_neg c43] at H
                                have c43b0 : decide (((rd_T100 t106 x9_1).f0) ≤ ((rd_T100 t106 (ji39)).f0)) = false := decide_eq_false c43
                                clear c43
                                have H' := Aside0.mk H
                                clear H
                                have p127 : 0 ≤ (x9_1 : Int) := of_decide_eq_true (by first | (with_reducible assumption) | assumption)
                                have q127 : x9_1 < (t106.length : Int) := of_decide_eq_true (by first | (with_reducible assumption) | assumption)
                                obtain ⟨ad127, e127, hx127_0, hx127_1, hx127_2⟩ := at_T100 (Kd.R_reads' HO_5.out).2.2 x9_1 p127 q127
                                obtain rfl : ad114 = ad127 := (by injection e127)
                                replace p127 := eq_true p127
                                replace q127 := eq_true q127
                                try go_wp2_with (first | ((with_reducible refine gate_dst (N := 10) rfl ?_); refine box_event ?hg (N := 10) ?hd (cs := #[.int .i64 0, .int .i64 0, .int .u8 0]) (t := 100) ?hr ?_; (case hd => rfl); (case hg => rfl); (case hr => first | (go_simp; done) | (go_simp; rfl)); intro gb128 hg w55 hbox hb; have n0_ := Aside0.mk (Kd.R_below (Kd.R_elderB (by (with_reducible repeat (first | apply Kd.R_alloc | apply Kd.R_drewN | apply Kd.R_drew)); exact HO_5.out) gb128 (Nat.le_of_eq hg.symm)) hb); have n1_ := Aside0.mk (Kd.R_below (by (with_reducible repeat (first | apply Kd.R_alloc | apply Kd.R_drewN | apply Kd.R_drew)); exact HO_8.out) hb); have n2_ := Aside0.mk (blk_below (g := gb101) (o := .cells #[.int .i64 x102000_1, .slice none 0 0] 26 (0, 0)) (by (with_reducible repeat (first | refine blk_drewN ?_ _ | refine blk_drew ?_ | refine blk_alloc ?_ _)); exact BK101.out) hb); have n3_ := Aside0.mk (below_step (by repeat (first | (with_reducible first | exact HB.out | apply below_alloc | apply pw_below_drewN | apply below_drew1 | refine below_set ?_ GE101.out) | exact HB.out)) hb); have n4_ := Aside0.mk (hbox); have n5_ := Aside0.mk ((by rw [hg]; exact (below_size (by repeat (first | (with_reducible first | exact HB.out | apply below_alloc | apply pw_below_drewN | apply below_drew1 | refine below_set ?_ GE101.out) | exact HB.out))) : w.heap.size ≤ gb128)); have n6_ := Aside0.mk ((by rw [hg]; exact (below_size (by repeat (first | (with_reducible first | exact HB.out | apply below_alloc | apply pw_below_drewN | apply below_drew1 | refine below_set ?_ GE101.out) | exact HB.out))) : w.heap.size ≤ gb128)); have n7_ := Aside0.mk ((by rw [hg]; exact Nat.ne_of_lt (blk_lt (g := gb101) (o := .cells #[.int .i64 x102000_1, .slice none 0 0] 26 (0, 0)) (by (with_reducible repeat (first | refine blk_drewN ?_ _ | refine blk_drew ?_ | refine blk_alloc ?_ _)); exact BK101.out)) : gb101 ≠ gb128)); have n8_ := Aside0.mk ((by rw [hg]; exact Nat.ne_of_gt (blk_lt (g := gb101) (o := .cells #[.int .i64 x102000_1, .slice none 0 0] 26 (0, 0)) (by (with_reducible repeat (first | refine blk_drewN ?_ _ | refine blk_drew ?_ | refine blk_alloc ?_ _)); exact BK101.out)) : gb128 ≠ gb101)); clear HO_5; clear HO_8; clear BK101; clear HB; have HO_5 := n0_; have HO_8 := n1_; have BK101 := n2_; have HB := n3_; have BK128 := n4_; have GW128 := n5_; have GE128 := n6_; have NB101_128 := n7_; have NB128_101 := n8_; clear n0_ n1_ n2_ n3_ n4_ n5_ n6_ n7_ n8_; clear hb hbox hg; have hnb56 := NB128_101.out; have hnc56 := NB101_128.out; have hcz57_0 : w55.cell? ⟨gb128, 0, none⟩ = some (.int .i64 0) := (blk_cell BK128.out 0).trans rfl; have hcz57_1 : w55.cell? ⟨gb128, 1, none⟩ = some (.int .i64 0) := (blk_cell BK128.out 1).trans rfl; have hcz57_2 : w55.cell? ⟨gb128, 2, none⟩ = some (.int .u8 0) := (blk_cell BK128.out 2).trans rfl; have hfz57_0 := blk_frozen BK128.out 0; have hfz57_1 := blk_frozen BK128.out 1; have hfz57_2 := blk_frozen BK128.out 2; have p133 : 0 ≤ ((ji39) : Int) := of_decide_eq_true (by first | (with_reducible assumption) | assumption); have q133 : (ji39) < (t106.length : Int) := of_decide_eq_true (by first | (with_reducible assumption) | assumption); obtain ⟨ad133, e133, hx133_0, hx133_1, hx133_2⟩ := at_T100 (Kd.R_reads' HO_5.out).2.2 (ji39) p133 q133; obtain rfl : ad114 = ad133 := (by injection e133); have hn133_0 : ad114.block ≠ gb128 := Kd.own_blk ((fun e_ => by have h_ := HO_5.out.1 _ e_.symm; first | exact h_ rfl | exact h_.2 rfl)); have hn133_1 : ad114.block ≠ gb128 := Kd.own_blk ((fun e_ => by have h_ := HO_5.out.1 _ e_.symm; first | exact h_ rfl | exact h_.2 rfl)); have hn133_2 : ad114.block ≠ gb128 := Kd.own_blk ((fun e_ => by have h_ := HO_5.out.1 _ e_.symm; first | exact h_ rfl | exact h_.2 rfl)); replace hx133_0 := (cell_far (p := ⟨gb128, 0, none⟩) (by first | (rw [add_block]; exact hn133_0) | (show (Addr.add _ _).block ≠ _; rw [add_block]; exact hn133_0) | exact hn133_0) (.int .i64 ((rd_T100 t106 x9_1).f0))).trans hx133_0; replace hx133_1 := (cell_far (p := ⟨gb128, 0, none⟩) (by first | (rw [add_block]; exact hn133_0) | (show (Addr.add _ _).block ≠ _; rw [add_block]; exact hn133_0) | exact hn133_0) (.int .i64 ((rd_T100 t106 x9_1).f0))).trans hx133_1; replace hx133_2 := (cell_far (p := ⟨gb128, 0, none⟩) (by first | (rw [add_block]; exact hn133_0) | (show (Addr.add _ _).block ≠ _; rw [add_block]; exact hn133_0) | exact hn133_0) (.int .i64 ((rd_T100 t106 x9_1).f0))).trans hx133_2; replace hx133_0 := (cell_far (p := ⟨gb128, 1, none⟩) (by first | (rw [add_block]; exact hn133_1) | (show (Addr.add _ _).block ≠ _; rw [add_block]; exact hn133_1) | exact hn133_1) (.int .i64 ((rd_T100 t106 x9_1).f1))).trans hx133_0; replace hx133_1 := (cell_far (p := ⟨gb128, 1, none⟩) (by first | (rw [add_block]; exact hn133_1) | (show (Addr.add _ _).block ≠ _; rw [add_block]; exact hn133_1) | exact hn133_1) (.int .i64 ((rd_T100 t106 x9_1).f1))).trans hx133_1; replace hx133_2 := (cell_far (p := ⟨gb128, 1, none⟩) (by first | (rw [add_block]; exact hn133_1) | (show (Addr.add _ _).block ≠ _; rw [add_block]; exact hn133_1) | exact hn133_1) (.int .i64 ((rd_T100 t106 x9_1).f1))).trans hx133_2; replace hx133_0 := (cell_far (p := ⟨gb128, 2, none⟩) (by first | (rw [add_block]; exact hn133_2) | (show (Addr.add _ _).block ≠ _; rw [add_block]; exact hn133_2) | exact hn133_2) (.int .u8 ((rd_T100 t106 x9_1).f2))).trans hx133_0; replace hx133_1 := (cell_far (p := ⟨gb128, 2, none⟩) (by first | (rw [add_block]; exact hn133_2) | (show (Addr.add _ _).block ≠ _; rw [add_block]; exact hn133_2) | exact hn133_2) (.int .u8 ((rd_T100 t106 x9_1).f2))).trans hx133_1; replace hx133_2 := (cell_far (p := ⟨gb128, 2, none⟩) (by first | (rw [add_block]; exact hn133_2) | (show (Addr.add _ _).block ≠ _; rw [add_block]; exact hn133_2) | exact hn133_2) (.int .u8 ((rd_T100 t106 x9_1).f2))).trans hx133_2; clear hn133_0; clear hn133_1; clear hn133_2; replace p133 := eq_true p133; replace q133 := eq_true q133))
                                have n0_ : Aside0 (Kd.R k100 100 (((w55.setCell ⟨gb128, 0, none⟩ (.int .i64 ((rd_T100 t106 x9_1).f0))).setCell ⟨gb128, 1, none⟩ (.int .i64 ((rd_T100 t106 x9_1).f1))).setCell ⟨gb128, 2, none⟩ (.int .u8 ((rd_T100 t106 x9_1).f2))) w.heap.size (fun k_ => k_ ≠ gb128) (.slice (some ad114) t106.length co23) t106) := ⟨by (with_reducible repeat (first | apply Kd.R_alloc | apply Kd.R_drewN | apply Kd.R_drew)); exact Kd.R_mono (Kd.R_far (p := ⟨gb128, 2, none⟩) (Kd.R_far (p := ⟨gb128, 1, none⟩) (Kd.R_far (p := ⟨gb128, 0, none⟩) (Kd.R_mono HO_5.out (fun k_ hk => (⟨hk, hk.2⟩ : _ ∧ k_ ≠ gb128))) (fun _ hk => hk.2) (.int .i64 ((rd_T100 t106 x9_1).f0))) (fun _ hk => hk.2) (.int .i64 ((rd_T100 t106 x9_1).f1))) (fun _ hk => hk.2) (.int .u8 ((rd_T100 t106 x9_1).f2))) (fun _ hk => hk.1.2)⟩
                                have n1_ : Aside0 (Kd.R Kd.bool 4 (((w55.setCell ⟨gb128, 0, none⟩ (.int .i64 ((rd_T100 t106 x9_1).f0))).setCell ⟨gb128, 1, none⟩ (.int .i64 ((rd_T100 t106 x9_1).f1))).setCell ⟨gb128, 2, none⟩ (.int .u8 ((rd_T100 t106 x9_1).f2))) w.heap.size (fun _ => True) v121 x8_1) := ⟨by (with_reducible repeat (first | apply Kd.R_alloc | apply Kd.R_drewN | apply Kd.R_drew)); exact Kd.R_mono (Kd.R_far (p := ⟨gb128, 2, none⟩) (Kd.R_far (p := ⟨gb128, 1, none⟩) (Kd.R_far (p := ⟨gb128, 0, none⟩) (Kd.R_types HO_8.out BK128.out (by decide)) (fun _ hk => hk.2) (.int .i64 ((rd_T100 t106 x9_1).f0))) (fun _ hk => hk.2) (.int .i64 ((rd_T100 t106 x9_1).f1))) (fun _ hk => hk.2) (.int .u8 ((rd_T100 t106 x9_1).f2))) (fun _ hk => trivial)⟩
                                have n2_ : Aside0 ((((w55.setCell ⟨gb128, 0, none⟩ (.int .i64 ((rd_T100 t106 x9_1).f0))).setCell ⟨gb128, 1, none⟩ (.int .i64 ((rd_T100 t106 x9_1).f1))).setCell ⟨gb128, 2, none⟩ (.int .u8 ((rd_T100 t106 x9_1).f2))).heap[gb101]? = some (.cells #[.int .i64 x102000_1, .slice none 0 0] 26 (0, 0))) := ⟨by (with_reducible repeat (first | refine blk_drewN ?_ _ | refine blk_drew ?_ | refine blk_alloc ?_ _)); refine blk_far ?_ NB101_128.out _; (with_reducible repeat (first | refine blk_drewN ?_ _ | refine blk_drew ?_ | refine blk_alloc ?_ _)); refine blk_far ?_ NB101_128.out _; (with_reducible repeat (first | refine blk_drewN ?_ _ | refine blk_drew ?_ | refine blk_alloc ?_ _)); refine blk_far ?_ NB101_128.out _; (with_reducible repeat (first | refine blk_drewN ?_ _ | refine blk_drew ?_ | refine blk_alloc ?_ _)); exact BK101.out⟩
                                have n3_ : Aside0 ((((w55.setCell ⟨gb128, 0, none⟩ (.int .i64 ((rd_T100 t106 x9_1).f0))).setCell ⟨gb128, 1, none⟩ (.int .i64 ((rd_T100 t106 x9_1).f1))).setCell ⟨gb128, 2, none⟩ (.int .u8 ((rd_T100 t106 x9_1).f2))).heap[gb128]? = some (.cells #[.int .i64 ((rd_T100 t106 x9_1).f0), .int .i64 ((rd_T100 t106 x9_1).f1), .int .u8 ((rd_T100 t106 x9_1).f2)] 100 (0, 0))) := ⟨by (with_reducible repeat (first | refine blk_drewN ?_ _ | refine blk_drew ?_ | refine blk_alloc ?_ _)); refine blk_put (cs := #[.int .i64 ((rd_T100 t106 x9_1).f0), .int .i64 ((rd_T100 t106 x9_1).f1), .int .u8 0]) ?_ 2 _ rfl; (with_reducible repeat (first | refine blk_drewN ?_ _ | refine blk_drew ?_ | refine blk_alloc ?_ _)); refine blk_put (cs := #[.int .i64 ((rd_T100 t106 x9_1).f0), .int .i64 0, .int .u8 0]) ?_ 1 _ rfl; (with_reducible repeat (first | refine blk_drewN ?_ _ | refine blk_drew ?_ | refine blk_alloc ?_ _)); refine blk_put (cs := #[.int .i64 0, .int .i64 0, .int .u8 0]) ?_ 0 _ rfl; (with_reducible repeat (first | refine blk_drewN ?_ _ | refine blk_drew ?_ | refine blk_alloc ?_ _)); exact BK128.out⟩
                                have n4_ : Aside0 (Below w.heap.size w (((w55.setCell ⟨gb128, 0, none⟩ (.int .i64 ((rd_T100 t106 x9_1).f0))).setCell ⟨gb128, 1, none⟩ (.int .i64 ((rd_T100 t106 x9_1).f1))).setCell ⟨gb128, 2, none⟩ (.int .u8 ((rd_T100 t106 x9_1).f2)))) := ⟨by repeat (first | (with_reducible first | exact HB.out | apply below_alloc | apply pw_below_drewN | apply below_drew1 | refine below_set ?_ GE101.out | refine below_set ?_ GE128.out) | exact HB.out)⟩
                                (try clear HO_5)
                                (try clear HO_8)
                                (try clear BK101)
                                (try clear BK128)
                                (try clear HB)
                                generalize (((w55.setCell ⟨gb128, 0, none⟩ (.int .i64 ((rd_T100 t106 x9_1).f0))).setCell ⟨gb128, 1, none⟩ (.int .i64 ((rd_T100 t106 x9_1).f1))).setCell ⟨gb128, 2, none⟩ (.int .u8 ((rd_T100 t106 x9_1).f2))) = w58 at n0_ n1_ n2_ n3_ n4_ ⊢
                                have HO_5 := n0_
                                have HO_8 := n1_
                                have BK101 := n2_
                                have BK128 := n3_
                                have HB := n4_
                                clear n0_ n1_ n2_ n3_ n4_
                                have n0_ := Aside0.mk (Kd.R_drew HO_5.out)
                                have n1_ := Aside0.mk (Kd.R_drew HO_8.out)
                                have n2_ := Aside0.mk (blk_drew BK101.out)
                                have n3_ := Aside0.mk (blk_drew BK128.out)
                                have n4_ := Aside0.mk (below_drew1 HB.out)
                                clear HO_5
                                clear HO_8
                                clear BK101
                                clear BK128
                                clear HB
                                have HO_5 := n0_
                                have HO_8 := n1_
                                have BK101 := n2_
                                have BK128 := n3_
                                have HB := n4_
                                clear n0_ n1_ n2_ n3_ n4_
                                have p134 : 0 ≤ ((ji39) : Int) := of_decide_eq_true (by first | (with_reducible assumption) | assumption)
                                have q134 : (ji39) < (t106.length : Int) := of_decide_eq_true (by first | (with_reducible assumption) | assumption)
                                obtain ⟨ad134, e134, hx134_0, hx134_1, hx134_2⟩ := at_T100 (Kd.R_reads' HO_5.out).2.2 (ji39) p134 q134
                                obtain rfl : ad114 = ad134 := (by injection e134)
                                replace p134 := eq_true p134
                                replace q134 := eq_true q134
                                refine start_ (n := 9) (S := fun w' => w'.cell? ⟨gb128, 0, none⟩ = some (.int .i64 ((rd_T100 t106 x9_1).f0)) ∧ w'.cell? ⟨gb128, 1, none⟩ = some (.int .i64 ((rd_T100 t106 x9_1).f1)) ∧ w'.cell? ⟨gb128, 2, none⟩ = some (.int .u8 ((rd_T100 t106 x9_1).f2)) ∧ w'.cell? (ad114.add (((ji39)).toNat * 3)) = some (.int .i64 ((rd_T100 t106 (ji39)).f0)) ∧ w'.cell? ⟨(ad114.add (((ji39)).toNat * 3)).block, (ad114.add (((ji39)).toNat * 3)).off + 1, none⟩ = some (.int .i64 ((rd_T100 t106 (ji39)).f1)) ∧ w'.cell? ⟨(ad114.add (((ji39)).toNat * 3)).block, (ad114.add (((ji39)).toNat * 3)).off + 2, none⟩ = some (.int .u8 ((rd_T100 t106 (ji39)).f2))) (ds := []) #[false, false, false, false, false, false, false, false, false] (by kernel_rfl) rfl rfl ⟨(blk_cell BK128.out 0).trans rfl, (blk_cell BK128.out 1).trans rfl, (blk_cell BK128.out 2).trans rfl, hx134_0, hx134_1, hx134_2⟩ (fun hHeld => ?_); refine with_tabW sloperef3_Parse.tab17 sloperef3_Parse.bits17 (fun HT_ HW_ => ?_)
                                generalize w58.drew = w59 at HO_5 HO_8 BK101 BK128 HB hx134_0 hx134_1 hx134_2 hHeld ⊢
                                refine pure_ (i := 0) (N := some 59) (v := ?_) (a' := ?_) #[true, false, false, false, false, false, false, false, false] rfl rfl (any_of HT_.out (by kernel_rfl)) (fun _ _ _ h => h) (Or.inl ⟨by rfl, ?_⟩) ?_ ?_
                                rotate_left
                                · intro w'
                                  go_simp
                                  with_reducible rfl
                                rotate_left
                                · simp only [Act.put, List.setIfInBounds_toArray, List.set_cons_zero, List.set_cons_succ, i64_w, i32_w]
                                  rfl
                                refine pure_ (i := 2) (N := some 61) (v := ?_) (a' := ?_) #[true, false, true, false, false, false, false, false, false] rfl rfl (any_of HT_.out (by kernel_rfl)) (fun _ _ _ h => h) (Or.inl ⟨by rfl, ?_⟩) ?_ ?_
                                rotate_left
                                · intro w'
                                  go_simp
                                  with_reducible rfl
                                rotate_left
                                · simp only [Act.put, List.setIfInBounds_toArray, List.set_cons_zero, List.set_cons_succ, i64_w, i32_w]
                                  rfl
                                refine pure_ (i := 3) (N := some 62) (v := ?_) (a' := ?_) #[true, false, true, true, false, false, false, false, false] rfl rfl (any_of HT_.out (by kernel_rfl)) (fun _ _ _ h => h) (Or.inl ⟨by rfl, ?_⟩) ?_ ?_
                                rotate_left
                                · intro w'
                                  go_simp
                                  with_reducible rfl
                                rotate_left
                                · simp only [Act.put, List.setIfInBounds_toArray, List.set_cons_zero, List.set_cons_succ, i64_w, i32_w]
                                  rfl
                                refine pure_ (i := 4) (N := some 63) (v := ?_) (a' := ?_) #[true, false, true, true, true, false, false, false, false] rfl rfl (any_of HT_.out (by kernel_rfl)) (fun _ _ _ h => h) (Or.inl ⟨by rfl, ?_⟩) ?_ ?_
                                rotate_left
                                · intro w'
                                  go_simp
                                  with_reducible rfl
                                rotate_left
                                · simp only [Act.put, List.setIfInBounds_toArray, List.set_cons_zero, List.set_cons_succ, i64_w, i32_w]
                                  rfl
                                refine pure_ (i := 5) (N := some 64) (v := ?_) (a' := ?_) #[true, false, true, true, true, true, false, false, false] rfl rfl (any_of HT_.out (by kernel_rfl)) (fun _ _ _ h => h) (Or.inl ⟨by rfl, ?_⟩) ?_ ?_
                                rotate_left
                                · intro w'
                                  go_simp
                                  with_reducible rfl
                                rotate_left
                                · simp only [Act.put, List.setIfInBounds_toArray, List.set_cons_zero, List.set_cons_succ, i64_w, i32_w]
                                  rfl
                                refine pure_ (i := 6) (N := some 65) (v := ?_) (a' := ?_) #[true, false, true, true, true, true, true, false, false] rfl rfl (any_of HT_.out (by kernel_rfl)) (fun _ _ _ h => h) (Or.inl ⟨by rfl, ?_⟩) ?_ ?_
                                rotate_left
                                · intro w'
                                  go_simp
                                  with_reducible rfl
                                rotate_left
                                · simp only [Act.put, List.setIfInBounds_toArray, List.set_cons_zero, List.set_cons_succ, i64_w, i32_w]
                                  rfl
                                refine take_ (i := 1) (N := some 60) (v := ?_) (a' := ?_) #[true, true, true, true, true, true, true, false, false] rfl rfl (take_ofW HT_.out HW_.out (by kernel_rfl)) (fun _ _ _ h => h) (Or.inl ⟨by rfl, ?_⟩) hHeld ?_ ?_
                                rotate_left
                                · rintro w' ⟨s0, s1, s2, s3, s4, s5⟩
                                  go_simp
                                  with_reducible rfl
                                rotate_left
                                · simp only [Act.put, List.setIfInBounds_toArray, List.set_cons_zero, List.set_cons_succ, i64_w, i32_w]
                                  rfl
                                refine take_ (i := 7) (N := some 66) (v := ?_) (a' := ?_) #[true, true, true, true, true, true, true, true, false] rfl rfl (take_ofW HT_.out HW_.out (by kernel_rfl)) (fun _ _ _ h => h) (Or.inl ⟨by rfl, ?_⟩) hHeld ?_ ?_
                                rotate_left
                                · rintro w' ⟨s0, s1, s2, s3, s4, s5⟩
                                  go_simp
                                  with_reducible rfl
                                rotate_left
                                · simp only [Act.put, List.setIfInBounds_toArray, List.set_cons_zero, List.set_cons_succ, i64_w, i32_w]
                                  rfl
                                refine pure_ (i := 8) (N := some 67) (v := ?_) (a' := ?_) #[true, true, true, true, true, true, true, true, true] rfl rfl (any_of HT_.out (by kernel_rfl)) (fun _ _ _ h => h) (Or.inl ⟨by rfl, ?_⟩) ?_ ?_
                                rotate_left
                                · intro w'
                                  go_simp
                                  with_reducible rfl
                                rotate_left
                                · simp only [Act.put, List.setIfInBounds_toArray, List.set_cons_zero, List.set_cons_succ, i64_w, i32_w]
                                  rfl
                                refine done_ (done_of HT_.out (by kernel_rfl)) ?_
                                have p139 : 0 ≤ ((ji39) : Int) := of_decide_eq_true (by first | (with_reducible assumption) | assumption)
                                have q139 : (ji39) < (t106.length : Int) := of_decide_eq_true (by first | (with_reducible assumption) | assumption)
                                obtain ⟨ad139, e139, hx139_0, hx139_1, hx139_2⟩ := at_T100 (Kd.R_reads' HO_5.out).2.2 (ji39) p139 q139
                                obtain rfl : ad114 = ad139 := (by injection e139)
                                replace p139 := eq_true p139
                                replace q139 := eq_true q139
                                try go_wp2
                                go_loopg [11] k1 (fun kq v11 w' => ∃ (x8_2 : List Bool) (x11_2 : Int), v11 = .int .i64 x11_2 ∧ Aside0 (sloperef3_Parse.l1 kq t106 ((rd_T100 t106 0).f0) x8_2 x9_1 x11_2 ((rd_T100 t106 x9_1).f0) ((rd_T100 t106 x9_1).f1) ((rd_T100 t106 x9_1).f2) = some (r1, r2, r3, r4)) ∧ Aside0 (kq ≤ k1) ∧ Aside0 (Kd.R k100 100 w' w.heap.size (fun k_ => k_ ≠ gb128) (.slice (some ad114) t106.length co23) t106) ∧ Aside0 (Kd.R Kd.bool 4 w' w.heap.size (fun _ => True) v121 x8_2) ∧ Aside0 (w'.heap[gb101]? = some (.cells #[.int .i64 x102000_1, (.slice none 0 0)] 26 (0, 0))) ∧ Aside0 (w'.heap[gb128]? = some (.cells #[.int .i64 ((rd_T100 t106 x9_1).f0), .int .i64 ((rd_T100 t106 x9_1).f1), .int .u8 ((rd_T100 t106 x9_1).f2)] 100 (0, 0))) ∧ Aside0 (Below w.heap.size w w'))
                                case atStart => exact ⟨(x8_1), ((rd_T100 t106 (ji39)).f0), (by first | rfl | (simp; done) | (simp only [← hji39] <;> (first | rfl | simp)) | (simp [*]; done)), H', ⟨Nat.le_refl _⟩, ⟨by (with_reducible repeat (first | apply Kd.R_alloc | apply Kd.R_drewN | apply Kd.R_drew)); exact HO_5.out⟩, ⟨by (with_reducible repeat (first | apply Kd.R_alloc | apply Kd.R_drewN | apply Kd.R_drew)); exact HO_8.out⟩, ⟨by (with_reducible repeat (first | refine blk_drewN ?_ _ | refine blk_drew ?_ | refine blk_alloc ?_ _)); exact BK101.out⟩, ⟨by (with_reducible repeat (first | refine blk_drewN ?_ _ | refine blk_drew ?_ | refine blk_alloc ?_ _)); exact BK128.out⟩, ⟨by repeat (first | (with_reducible first | exact HB.out | apply below_alloc | apply pw_below_drewN | apply below_drew1 | refine below_set ?_ GE101.out | refine below_set ?_ GE128.out) | exact HB.out)⟩⟩
                                case round =>
                                  clear H'
                                  try clear c1
                                  try clear p1
                                  try clear q1
                                  try clear hx1
                                  try clear qi1
                                  try clear c2
                                  try clear c2b0
                                  try clear c2b1
                                  try clear p2
                                  try clear c3
                                  try clear c4
                                  try clear c5
                                  try clear c6
                                  try clear p6
                                  try clear c7
                                  try clear c9
                                  try clear c9b0
                                  try clear p11
                                  try clear q11
                                  try clear hx11
                                  try clear qi11
                                  try clear p12
                                  try clear q12
                                  try clear hx12
                                  try clear p13
                                  try clear q13
                                  try clear hx13
                                  try clear c16
                                  try clear c16b0
                                  try clear c16b1
                                  try clear c18
                                  try clear c19
                                  try clear c19b0
                                  try clear c19b1
                                  try clear c20
                                  try clear c20b0
                                  try clear c20b1
                                  try clear c26
                                  try clear c26b0
                                  try clear c27
                                  try clear c27b0
                                  try clear c28
                                  try clear c28b0
                                  try clear c31
                                  try clear c36
                                  try clear c40
                                  try clear c40b0
                                  try clear c41
                                  try clear c41b0
                                  try clear c42
                                  try clear c42b0
                                  try clear c42b1
                                  try clear c43
                                  try clear c43b0
                                  try clear c46
                                  try clear c56
                                  try clear c59
                                  try clear hcz14_0
                                  try clear hcz14_1
                                  try clear hcz32_0
                                  try clear hcz32_1
                                  try clear hcz32_2
                                  try clear hcz47_0
                                  try clear hcz47_1
                                  try clear hcz47_2
                                  try clear hcz57_0
                                  try clear hcz57_1
                                  try clear hcz57_2
                                  try clear hcz6_0
                                  try clear hcz6_1
                                  try clear hfz14_0
                                  try clear hfz14_1
                                  try clear hfz32_0
                                  try clear hfz32_1
                                  try clear hfz32_2
                                  try clear hfz47_0
                                  try clear hfz47_1
                                  try clear hfz47_2
                                  try clear hfz57_0
                                  try clear hfz57_1
                                  try clear hfz57_2
                                  try clear hfz6_0
                                  try clear hfz6_1
                                  try clear hx114_0
                                  try clear hx114_1
                                  try clear hx114_2
                                  try clear hx127_0
                                  try clear hx127_1
                                  try clear hx127_2
                                  try clear hx133_0
                                  try clear hx133_1
                                  try clear hx133_2
                                  try clear hx134_0
                                  try clear hx134_1
                                  try clear hx134_2
                                  try clear hx139_0
                                  try clear hx139_1
                                  try clear hx139_2
                                  try clear p1
                                  try clear p11
                                  try clear p114
                                  try clear p127
                                  try clear p133
                                  try clear p134
                                  try clear p139
                                  try clear p2
                                  try clear q1
                                  try clear q11
                                  try clear q114
                                  try clear q127
                                  try clear q133
                                  try clear q134
                                  try clear q139
                                  obtain ⟨x8_2, x11_2, rfl, HA, HK2, HO_5, HO_8, BK101, BK128, HB⟩ := hrel
                                  cases gk with
                                  | zero => exact absurd HA.out (by simp [sloperef3_Parse.l1])
                                  | succ k2 =>
                                    have H := HA.out
                                    clear HA
                                    simp only [sloperef3_Parse.l1] at H
                                    by_cases c60 : x11_2 < ((rd_T100 t106 x9_1).f0)
                                    · rw [if_pos c60] at H
                                      have c60b0 : decide (x11_2 < ((rd_T100 t106 x9_1).f0)) = true := decide_eq_true c60
                                      clear c60
                                      by_cases c61 : 0 ≤ x11_2
                                      · rw [if_pos c61] at H
                                        have c61b0 : decide (0 ≤ x11_2) = true := decide_eq_true c61
                                        clear c61
                                        by_cases c62 : x11_2 < (x8_2.length : Int)
                                        · rw [if_pos c62] at H
                                          have c62b0 : decide (x11_2 < (x8_2.length : Int)) = true := decide_eq_true c62
                                          clear c62
                                          obtain ⟨y140, hy140⟩ : ∃ y_ : List Bool, y_ = (x8_2.set (x11_2 : Int).toNat true) := ⟨_, rfl⟩
                                          replace H : (sloperef3_Parse.l1 k2 t106 ((rd_T100 t106 0).f0) y140 x9_1 (wrap64 (x11_2 + 1)) ((rd_T100 t106 x9_1).f0) ((rd_T100 t106 x9_1).f1) ((rd_T100 t106 x9_1).f2)) = some (r1, r2, r3, r4) := by first | (rw [hy140]; with_reducible exact H) | (have H2_ := (Option.bind_some _ _).symm.trans H; rw [hy140]; with_reducible exact H2_) | (have H2_ := (Option.bind_some _ _).symm.trans H; with_reducible exact H2_) | with_reducible exact H | (rw [hy140]; exact H) | exact H
                                          have Ny140 := Aside0.mk hy140
                                          clear hy140
                                          have H' := Aside0.mk H
                                          clear H
                                          have hnb64 := NB128_101.out
                                          have hnc64 := NB101_128.out
                                          have hcz65_0 : wr.cell? ⟨gb128, 0, none⟩ = some (.int .i64 ((rd_T100 t106 x9_1).f0)) := (blk_cell BK128.out 0).trans rfl
                                          have hcz65_1 : wr.cell? ⟨gb128, 1, none⟩ = some (.int .i64 ((rd_T100 t106 x9_1).f1)) := (blk_cell BK128.out 1).trans rfl
                                          have hcz65_2 : wr.cell? ⟨gb128, 2, none⟩ = some (.int .u8 ((rd_T100 t106 x9_1).f2)) := (blk_cell BK128.out 2).trans rfl
                                          have hfz65_0 := blk_frozen BK128.out 0
                                          have hfz65_1 := blk_frozen BK128.out 1
                                          have hfz65_2 := blk_frozen BK128.out 2
                                          have p63 : 0 ≤ (x11_2 : Int) := of_decide_eq_true (by first | (with_reducible assumption) | assumption)
                                          have q63 : (x11_2 : Int) < ((x8_2.length : Int) : Int) := of_decide_eq_true (by first | (with_reducible assumption) | assumption)
                                          obtain ⟨go63, co63, eo63, gb63, gl63, cl63, HG63⟩ := Kd.R_form HO_8.out (by omega)
                                          (first | cases eo63 | (injection eo63 with ea_ en_ ec_; (first | subst ea_ | (injection ea_ with ea_; subst ea_)); subst ec_; clear en_))
                                          have GB63 := Aside0.mk gb63
                                          have GG63 := Aside0.mk HG63
                                          clear gb63 gl63 HG63
                                          obtain ⟨hx63_0, hf63_0⟩ := Kd.R_celln false HO_8.out (x11_2 : Int) p63 q63
                                          replace p63 := eq_true p63
                                          replace q63 := eq_true q63
                                          have HP66 := Kd.R_putg HO_8.out (x11_2 : Int) true
                                          go_wp2_with (first | ((with_reducible refine gate_store (t := 4) (p := 85) rfl ?_); refine store_event (t := 4) (p := 85) (v := ?vo_w67) (w1 := (wr.setCell ⟨go63, (x11_2 : Int).toNat, none⟩ (.bool true))) ?hg ?ho ?hn ?hr ?_; (case ho => rfl); (case hg => rfl); (case hn => rfl); (case hr => first | (go_simp; done) | (go_simp; rfl)); intro w67 hw; have hg : wr.grownBy w67 (some go63) := (by rw [hw]; exact HP66.2); have hp_ : Kd.R Kd.bool 4 w67 w.heap.size (fun _ => True) (.slice (some ⟨go63, 0, none⟩) x8_2.length co63) y140 := (by rw [hw, Ny140.out]; exact HP66.1); clear HP66; have n0_ := Aside0.mk (Kd.R_over' (v := (.slice (some ⟨go63, 0, none⟩) x8_2.length co63)) (by (with_reducible repeat (first | apply Kd.R_alloc | apply Kd.R_drewN | apply Kd.R_drew)); exact HO_5.out) (Kd.R_typed HO_8.out) (by decide) hg); have n1_ := Aside0.mk (hp_); have n2_ := Aside0.mk (blk_grown (g := gb101) (o := .cells #[.int .i64 x102000_1, .slice none 0 0] 26 (0, 0)) (by (with_reducible repeat (first | refine blk_drewN ?_ _ | refine blk_drew ?_ | refine blk_alloc ?_ _)); exact BK101.out) hg (Kd.R_ne HO_8.out BK101.out (by decide))); have n3_ := Aside0.mk (blk_grown (g := gb128) (o := .cells #[.int .i64 ((rd_T100 t106 x9_1).f0), .int .i64 ((rd_T100 t106 x9_1).f1), .int .u8 ((rd_T100 t106 x9_1).f2)] 100 (0, 0)) (by (with_reducible repeat (first | refine blk_drewN ?_ _ | refine blk_drew ?_ | refine blk_alloc ?_ _)); exact BK128.out) hg (Kd.R_ne HO_8.out BK128.out (by decide))); have n4_ := Aside0.mk ((by rw [hw]; exact below_set (HB.out) GB63.out : Below w.heap.size w w67)); clear HO_5; clear HO_8; clear BK101; clear BK128; clear HB; have HO_5 := n0_; have HO_8 := n1_; have BK101 := n2_; have BK128 := n3_; have HB := n4_; clear n0_ n1_ n2_ n3_ n4_; clear hg hw hp_))
                                          go_roundg k2
                                          case measure => have := HK1.out; have := HK2.out; omega
                                          case rel => exact ⟨(y140), (wrap64 (x11_2 + 1)), (by first | rfl | (simp; done) | (simp [*]; done)), H', ⟨by have := HK1.out; have := HK2.out; omega⟩, ⟨by (with_reducible repeat (first | apply Kd.R_alloc | apply Kd.R_drewN | apply Kd.R_drew)); exact HO_5.out⟩, ⟨by (with_reducible repeat (first | apply Kd.R_alloc | apply Kd.R_drewN | apply Kd.R_drew)); exact HO_8.out⟩, ⟨by (with_reducible repeat (first | refine blk_drewN ?_ _ | refine blk_drew ?_ | refine blk_alloc ?_ _)); exact BK101.out⟩, ⟨by (with_reducible repeat (first | refine blk_drewN ?_ _ | refine blk_drew ?_ | refine blk_alloc ?_ _)); exact BK128.out⟩, ⟨by repeat (first | (with_reducible first | exact HB.out | apply below_alloc | apply pw_below_drewN | apply below_drew1 | refine below_set ?_ GE101.out | refine below_set ?_ GE128.out) | exact HB.out)⟩⟩
                                        · rw [if_neg c62] at H
                                          exact absurd H (by simp)
                                      · rw [if_neg c61] at H
                                        exact absurd H (by simp)
                                    · rw [if_neg c60] at H
                                      have c60b0 : decide (x11_2 < ((rd_T100 t106 x9_1).f0)) = false := decide_eq_false c60
                                      clear c60
                                      by_cases c68 : 0 ≤ ((rd_T100 t106 x9_1).f0)
                                      · rw [if_pos c68] at H
                                        have c68b0 : decide (0 ≤ ((rd_T100 t106 x9_1).f0)) = true := decide_eq_true c68
                                        clear c68
                                        by_cases c69 : ((rd_T100 t106 x9_1).f0) < (x8_2.length : Int)
                                        · rw [if_pos c69] at H
                                          have c69b0 : decide (((rd_T100 t106 x9_1).f0) < (x8_2.length : Int)) = true := decide_eq_true c69
                                          clear c69
                                          obtain ⟨y141, hy141⟩ : ∃ y_ : List Bool, y_ = (x8_2.set (((rd_T100 t106 x9_1).f0) : Int).toNat true) := ⟨_, rfl⟩
                                          replace H : (sloperef3_Parse.l0 k2 t106 ((rd_T100 t106 0).f0) y141 (wrap64 (x9_1 + 1))) = some (r1, r2, r3, r4) := by first | (rw [hy141]; with_reducible exact H) | (have H2_ := (Option.bind_some _ _).symm.trans H; rw [hy141]; with_reducible exact H2_) | (have H2_ := (Option.bind_some _ _).symm.trans H; with_reducible exact H2_) | with_reducible exact H | (rw [hy141]; exact H) | exact H
                                          have Ny141 := Aside0.mk hy141
                                          clear hy141
                                          have H' := Aside0.mk H
                                          clear H
                                          have hnb71 := NB128_101.out
                                          have hnc71 := NB101_128.out
                                          have hcz72_0 : wr.cell? ⟨gb128, 0, none⟩ = some (.int .i64 ((rd_T100 t106 x9_1).f0)) := (blk_cell BK128.out 0).trans rfl
                                          have hcz72_1 : wr.cell? ⟨gb128, 1, none⟩ = some (.int .i64 ((rd_T100 t106 x9_1).f1)) := (blk_cell BK128.out 1).trans rfl
                                          have hcz72_2 : wr.cell? ⟨gb128, 2, none⟩ = some (.int .u8 ((rd_T100 t106 x9_1).f2)) := (blk_cell BK128.out 2).trans rfl
                                          have hfz72_0 := blk_frozen BK128.out 0
                                          have hfz72_1 := blk_frozen BK128.out 1
                                          have hfz72_2 := blk_frozen BK128.out 2
                                          have p70 : 0 ≤ (((rd_T100 t106 x9_1).f0) : Int) := of_decide_eq_true (by first | (with_reducible assumption) | assumption)
                                          have q70 : (((rd_T100 t106 x9_1).f0) : Int) < ((x8_2.length : Int) : Int) := of_decide_eq_true (by first | (with_reducible assumption) | assumption)
                                          obtain ⟨go70, co70, eo70, gb70, gl70, cl70, HG70⟩ := Kd.R_form HO_8.out (by omega)
                                          (first | cases eo70 | (injection eo70 with ea_ en_ ec_; (first | subst ea_ | (injection ea_ with ea_; subst ea_)); subst ec_; clear en_))
                                          have GB70 := Aside0.mk gb70
                                          have GG70 := Aside0.mk HG70
                                          clear gb70 gl70 HG70
                                          obtain ⟨hx70_0, hf70_0⟩ := Kd.R_celln false HO_8.out (((rd_T100 t106 x9_1).f0) : Int) p70 q70
                                          replace p70 := eq_true p70
                                          replace q70 := eq_true q70
                                          have HP73 := Kd.R_putg HO_8.out (((rd_T100 t106 x9_1).f0) : Int) true
                                          go_wp2_with (first | ((with_reducible refine gate_store (t := 4) (p := 106) rfl ?_); refine store_event (t := 4) (p := 106) (v := ?vo_w74) (w1 := (wr.setCell ⟨go70, (((rd_T100 t106 x9_1).f0) : Int).toNat, none⟩ (.bool true))) ?hg ?ho ?hn ?hr ?_; (case ho => rfl); (case hg => rfl); (case hn => rfl); (case hr => first | (go_simp; done) | (go_simp; rfl)); intro w74 hw; have hg : wr.grownBy w74 (some go70) := (by rw [hw]; exact HP73.2); have hp_ : Kd.R Kd.bool 4 w74 w.heap.size (fun _ => True) (.slice (some ⟨go70, 0, none⟩) x8_2.length co70) y141 := (by rw [hw, Ny141.out]; exact HP73.1); clear HP73; have n0_ := Aside0.mk (Kd.R_over' (v := (.slice (some ⟨go70, 0, none⟩) x8_2.length co70)) (by (with_reducible repeat (first | apply Kd.R_alloc | apply Kd.R_drewN | apply Kd.R_drew)); exact HO_5.out) (Kd.R_typed HO_8.out) (by decide) hg); have n1_ := Aside0.mk (hp_); have n2_ := Aside0.mk (blk_grown (g := gb101) (o := .cells #[.int .i64 x102000_1, .slice none 0 0] 26 (0, 0)) (by (with_reducible repeat (first | refine blk_drewN ?_ _ | refine blk_drew ?_ | refine blk_alloc ?_ _)); exact BK101.out) hg (Kd.R_ne HO_8.out BK101.out (by decide))); have n3_ := Aside0.mk (blk_grown (g := gb128) (o := .cells #[.int .i64 ((rd_T100 t106 x9_1).f0), .int .i64 ((rd_T100 t106 x9_1).f1), .int .u8 ((rd_T100 t106 x9_1).f2)] 100 (0, 0)) (by (with_reducible repeat (first | refine blk_drewN ?_ _ | refine blk_drew ?_ | refine blk_alloc ?_ _)); exact BK128.out) hg (Kd.R_ne HO_8.out BK128.out (by decide))); have n4_ := Aside0.mk ((by rw [hw]; exact below_set (HB.out) GB70.out : Below w.heap.size w w74)); clear HO_5; clear HO_8; clear BK101; clear BK128; clear HB; have HO_5 := n0_; have HO_8 := n1_; have BK101 := n2_; have BK128 := n3_; have HB := n4_; clear n0_ n1_ n2_ n3_ n4_; clear hg hw hp_))
                                          go_roundg k2
                                          case measure => have := HK1.out; have := HK2.out; omega
                                          case rel => exact ⟨(y141), (wrap64 (x9_1 + 1)), (x102000_1), (by first | rfl | (simp; done) | (simp [*]; done)), H', ⟨by have := HK1.out; have := HK2.out; omega⟩, ⟨by (with_reducible repeat (first | apply Kd.R_alloc | apply Kd.R_drewN | apply Kd.R_drew)); exact Kd.R_mono HO_5.out (fun _ hk => trivial)⟩, ⟨by (with_reducible repeat (first | apply Kd.R_alloc | apply Kd.R_drewN | apply Kd.R_drew)); exact HO_8.out⟩, ⟨by (with_reducible repeat (first | refine blk_drewN ?_ _ | refine blk_drew ?_ | refine blk_alloc ?_ _)); exact BK101.out⟩, ⟨by repeat (first | (with_reducible first | exact HB.out | apply below_alloc | apply pw_below_drewN | apply below_drew1 | refine below_set ?_ GE101.out | refine below_set ?_ GE128.out) | exact HB.out)⟩⟩
                                        · rw [if_neg c69] at H
                                          exact absurd H (by simp)
                                      · rw [if_neg c68] at H
                                        exact absurd H (by simp)
                            · rw [if_neg c42] at H
                              have c42b0 : (((rd_T100 t106 (ji39)).f2) == 45) = false := beq_eq_false_iff_ne.mpr c42
                              have c42b1 : (((rd_T100 t106 (ji39)).f2) != 45) = true := bne_iff_ne.mpr c42
                              by_cases c75 : x9_1 > 1
                              · rw [if_pos c75] at H
                                have c75b0 : decide (1 < x9_1) = true := decide_eq_true c75
                                clear c75
                                by_cases c76 : ((rd_T100 t106 x9_1).f0) < (wrap64 (((rd_T100 t106 (ji39)).f0) + 2))
                                · rw [if_pos c76] at H
                                  have c76b0 : decide (((rd_T100 t106 x9_1).f0) < (wrap64 (((rd_T100 t106 (ji39)).f0) + 2))) = true := decide_eq_true c76
                                  clear c76
                                  replace H := Option.bind_eq_some_iff.mp H
                                  obtain ⟨⟨t143, t144⟩, A770, H⟩ := H
                                  replace H : (some (t143, t144, (rd_T100 t106 x9_1).f1, 1)) = some (r1, r2, r3, r4) := H
                                  have A77 := Aside0.mk A770
                                  clear A770
                                  simp only [Option.some.injEq, Prod.mk.injEq] at H
                                  obtain ⟨rfl, rfl, rfl, rfl⟩ := H
                                  have p127 : 0 ≤ (x9_1 : Int) := of_decide_eq_true (by first | (with_reducible assumption) | assumption)
                                  have q127 : x9_1 < (t106.length : Int) := of_decide_eq_true (by first | (with_reducible assumption) | assumption)
                                  obtain ⟨ad127, e127, hx127_0, hx127_1, hx127_2⟩ := at_T100 (Kd.R_reads' HO_5.out).2.2 x9_1 p127 q127
                                  obtain rfl : ad114 = ad127 := (by injection e127)
                                  replace p127 := eq_true p127
                                  replace q127 := eq_true q127
                                  try go_wp2_with (first | ((with_reducible refine gate_dst (N := 10) rfl ?_); refine box_event ?hg (N := 10) ?hd (cs := #[.int .i64 0, .int .i64 0, .int .u8 0]) (t := 100) ?hr ?_; (case hd => rfl); (case hg => rfl); (case hr => first | (go_simp; done) | (go_simp; rfl)); intro gb128 hg w78 hbox hb; have n0_ := Aside0.mk (Kd.R_below (Kd.R_elderB (by (with_reducible repeat (first | apply Kd.R_alloc | apply Kd.R_drewN | apply Kd.R_drew)); exact HO_5.out) gb128 (Nat.le_of_eq hg.symm)) hb); have n1_ := Aside0.mk (Kd.R_below (by (with_reducible repeat (first | apply Kd.R_alloc | apply Kd.R_drewN | apply Kd.R_drew)); exact HO_8.out) hb); have n2_ := Aside0.mk (blk_below (g := gb101) (o := .cells #[.int .i64 x102000_1, .slice none 0 0] 26 (0, 0)) (by (with_reducible repeat (first | refine blk_drewN ?_ _ | refine blk_drew ?_ | refine blk_alloc ?_ _)); exact BK101.out) hb); have n3_ := Aside0.mk (below_step (by repeat (first | (with_reducible first | exact HB.out | apply below_alloc | apply pw_below_drewN | apply below_drew1 | refine below_set ?_ GE101.out) | exact HB.out)) hb); have n4_ := Aside0.mk (hbox); have n5_ := Aside0.mk ((by rw [hg]; exact (below_size (by repeat (first | (with_reducible first | exact HB.out | apply below_alloc | apply pw_below_drewN | apply below_drew1 | refine below_set ?_ GE101.out) | exact HB.out))) : w.heap.size ≤ gb128)); have n6_ := Aside0.mk ((by rw [hg]; exact (below_size (by repeat (first | (with_reducible first | exact HB.out | apply below_alloc | apply pw_below_drewN | apply below_drew1 | refine below_set ?_ GE101.out) | exact HB.out))) : w.heap.size ≤ gb128)); have n7_ := Aside0.mk ((by rw [hg]; exact Nat.ne_of_lt (blk_lt (g := gb101) (o := .cells #[.int .i64 x102000_1, .slice none 0 0] 26 (0, 0)) (by (with_reducible repeat (first | refine blk_drewN ?_ _ | refine blk_drew ?_ | refine blk_alloc ?_ _)); exact BK101.out)) : gb101 ≠ gb128)); have n8_ := Aside0.mk ((by rw [hg]; exact Nat.ne_of_gt (blk_lt (g := gb101) (o := .cells #[.int .i64 x102000_1, .slice none 0 0] 26 (0, 0)) (by (with_reducible repeat (first | refine blk_drewN ?_ _ | refine blk_drew ?_ | refine blk_alloc ?_ _)); exact BK101.out)) : gb128 ≠ gb101)); clear HO_5; clear HO_8; clear BK101; clear HB; have HO_5 := n0_; have HO_8 := n1_; have BK101 := n2_; have HB := n3_; have BK128 := n4_; have GW128 := n5_; have GE128 := n6_; have NB101_128 := n7_; have NB128_101 := n8_; clear n0_ n1_ n2_ n3_ n4_ n5_ n6_ n7_ n8_; clear hb hbox hg; have hnb79 := NB128_101.out; have hnc79 := NB101_128.out; have hcz80_0 : w78.cell? ⟨gb128, 0, none⟩ = some (.int .i64 0) := (blk_cell BK128.out 0).trans rfl; have hcz80_1 : w78.cell? ⟨gb128, 1, none⟩ = some (.int .i64 0) := (blk_cell BK128.out 1).trans rfl; have hcz80_2 : w78.cell? ⟨gb128, 2, none⟩ = some (.int .u8 0) := (blk_cell BK128.out 2).trans rfl; have hfz80_0 := blk_frozen BK128.out 0; have hfz80_1 := blk_frozen BK128.out 1; have hfz80_2 := blk_frozen BK128.out 2; have p133 : 0 ≤ ((ji39) : Int) := of_decide_eq_true (by first | (with_reducible assumption) | assumption); have q133 : (ji39) < (t106.length : Int) := of_decide_eq_true (by first | (with_reducible assumption) | assumption); obtain ⟨ad133, e133, hx133_0, hx133_1, hx133_2⟩ := at_T100 (Kd.R_reads' HO_5.out).2.2 (ji39) p133 q133; obtain rfl : ad114 = ad133 := (by injection e133); have hn133_0 : ad114.block ≠ gb128 := Kd.own_blk ((fun e_ => by have h_ := HO_5.out.1 _ e_.symm; first | exact h_ rfl | exact h_.2 rfl)); have hn133_1 : ad114.block ≠ gb128 := Kd.own_blk ((fun e_ => by have h_ := HO_5.out.1 _ e_.symm; first | exact h_ rfl | exact h_.2 rfl)); have hn133_2 : ad114.block ≠ gb128 := Kd.own_blk ((fun e_ => by have h_ := HO_5.out.1 _ e_.symm; first | exact h_ rfl | exact h_.2 rfl)); replace hx133_0 := (cell_far (p := ⟨gb128, 0, none⟩) (by first | (rw [add_block]; exact hn133_0) | (show (Addr.add _ _).block ≠ _; rw [add_block]; exact hn133_0) | exact hn133_0) (.int .i64 ((rd_T100 t106 x9_1).f0))).trans hx133_0; replace hx133_1 := (cell_far (p := ⟨gb128, 0, none⟩) (by first | (rw [add_block]; exact hn133_0) | (show (Addr.add _ _).block ≠ _; rw [add_block]; exact hn133_0) | exact hn133_0) (.int .i64 ((rd_T100 t106 x9_1).f0))).trans hx133_1; replace hx133_2 := (cell_far (p := ⟨gb128, 0, none⟩) (by first | (rw [add_block]; exact hn133_0) | (show (Addr.add _ _).block ≠ _; rw [add_block]; exact hn133_0) | exact hn133_0) (.int .i64 ((rd_T100 t106 x9_1).f0))).trans hx133_2; replace hx133_0 := (cell_far (p := ⟨gb128, 1, none⟩) (by first | (rw [add_block]; exact hn133_1) | (show (Addr.add _ _).block ≠ _; rw [add_block]; exact hn133_1) | exact hn133_1) (.int .i64 ((rd_T100 t106 x9_1).f1))).trans hx133_0; replace hx133_1 := (cell_far (p := ⟨gb128, 1, none⟩) (by first | (rw [add_block]; exact hn133_1) | (show (Addr.add _ _).block ≠ _; rw [add_block]; exact hn133_1) | exact hn133_1) (.int .i64 ((rd_T100 t106 x9_1).f1))).trans hx133_1; replace hx133_2 := (cell_far (p := ⟨gb128, 1, none⟩) (by first | (rw [add_block]; exact hn133_1) | (show (Addr.add _ _).block ≠ _; rw [add_block]; exact hn133_1) | exact hn133_1) (.int .i64 ((rd_T100 t106 x9_1).f1))).trans hx133_2; replace hx133_0 := (cell_far (p := ⟨gb128, 2, none⟩) (by first | (rw [add_block]; exact hn133_2) | (show (Addr.add _ _).block ≠ _; rw [add_block]; exact hn133_2) | exact hn133_2) (.int .u8 ((rd_T100 t106 x9_1).f2))).trans hx133_0; replace hx133_1 := (cell_far (p := ⟨gb128, 2, none⟩) (by first | (rw [add_block]; exact hn133_2) | (show (Addr.add _ _).block ≠ _; rw [add_block]; exact hn133_2) | exact hn133_2) (.int .u8 ((rd_T100 t106 x9_1).f2))).trans hx133_1; replace hx133_2 := (cell_far (p := ⟨gb128, 2, none⟩) (by first | (rw [add_block]; exact hn133_2) | (show (Addr.add _ _).block ≠ _; rw [add_block]; exact hn133_2) | exact hn133_2) (.int .u8 ((rd_T100 t106 x9_1).f2))).trans hx133_2; clear hn133_0; clear hn133_1; clear hn133_2; replace p133 := eq_true p133; replace q133 := eq_true q133))
                                  have n0_ : Aside0 (Kd.R k100 100 (((w78.setCell ⟨gb128, 0, none⟩ (.int .i64 ((rd_T100 t106 x9_1).f0))).setCell ⟨gb128, 1, none⟩ (.int .i64 ((rd_T100 t106 x9_1).f1))).setCell ⟨gb128, 2, none⟩ (.int .u8 ((rd_T100 t106 x9_1).f2))) w.heap.size (fun k_ => k_ ≠ gb128) (.slice (some ad114) t106.length co23) t106) := ⟨by (with_reducible repeat (first | apply Kd.R_alloc | apply Kd.R_drewN | apply Kd.R_drew)); exact Kd.R_mono (Kd.R_far (p := ⟨gb128, 2, none⟩) (Kd.R_far (p := ⟨gb128, 1, none⟩) (Kd.R_far (p := ⟨gb128, 0, none⟩) (Kd.R_mono HO_5.out (fun k_ hk => (⟨hk, hk.2⟩ : _ ∧ k_ ≠ gb128))) (fun _ hk => hk.2) (.int .i64 ((rd_T100 t106 x9_1).f0))) (fun _ hk => hk.2) (.int .i64 ((rd_T100 t106 x9_1).f1))) (fun _ hk => hk.2) (.int .u8 ((rd_T100 t106 x9_1).f2))) (fun _ hk => hk.1.2)⟩
                                  have n1_ : Aside0 (Kd.R Kd.bool 4 (((w78.setCell ⟨gb128, 0, none⟩ (.int .i64 ((rd_T100 t106 x9_1).f0))).setCell ⟨gb128, 1, none⟩ (.int .i64 ((rd_T100 t106 x9_1).f1))).setCell ⟨gb128, 2, none⟩ (.int .u8 ((rd_T100 t106 x9_1).f2))) w.heap.size (fun _ => True) v121 x8_1) := ⟨by (with_reducible repeat (first | apply Kd.R_alloc | apply Kd.R_drewN | apply Kd.R_drew)); exact Kd.R_mono (Kd.R_far (p := ⟨gb128, 2, none⟩) (Kd.R_far (p := ⟨gb128, 1, none⟩) (Kd.R_far (p := ⟨gb128, 0, none⟩) (Kd.R_types HO_8.out BK128.out (by decide)) (fun _ hk => hk.2) (.int .i64 ((rd_T100 t106 x9_1).f0))) (fun _ hk => hk.2) (.int .i64 ((rd_T100 t106 x9_1).f1))) (fun _ hk => hk.2) (.int .u8 ((rd_T100 t106 x9_1).f2))) (fun _ hk => trivial)⟩
                                  have n2_ : Aside0 ((((w78.setCell ⟨gb128, 0, none⟩ (.int .i64 ((rd_T100 t106 x9_1).f0))).setCell ⟨gb128, 1, none⟩ (.int .i64 ((rd_T100 t106 x9_1).f1))).setCell ⟨gb128, 2, none⟩ (.int .u8 ((rd_T100 t106 x9_1).f2))).heap[gb101]? = some (.cells #[.int .i64 x102000_1, .slice none 0 0] 26 (0, 0))) := ⟨by (with_reducible repeat (first | refine blk_drewN ?_ _ | refine blk_drew ?_ | refine blk_alloc ?_ _)); refine blk_far ?_ NB101_128.out _; (with_reducible repeat (first | refine blk_drewN ?_ _ | refine blk_drew ?_ | refine blk_alloc ?_ _)); refine blk_far ?_ NB101_128.out _; (with_reducible repeat (first | refine blk_drewN ?_ _ | refine blk_drew ?_ | refine blk_alloc ?_ _)); refine blk_far ?_ NB101_128.out _; (with_reducible repeat (first | refine blk_drewN ?_ _ | refine blk_drew ?_ | refine blk_alloc ?_ _)); exact BK101.out⟩
                                  have n3_ : Aside0 ((((w78.setCell ⟨gb128, 0, none⟩ (.int .i64 ((rd_T100 t106 x9_1).f0))).setCell ⟨gb128, 1, none⟩ (.int .i64 ((rd_T100 t106 x9_1).f1))).setCell ⟨gb128, 2, none⟩ (.int .u8 ((rd_T100 t106 x9_1).f2))).heap[gb128]? = some (.cells #[.int .i64 ((rd_T100 t106 x9_1).f0), .int .i64 ((rd_T100 t106 x9_1).f1), .int .u8 ((rd_T100 t106 x9_1).f2)] 100 (0, 0))) := ⟨by (with_reducible repeat (first | refine blk_drewN ?_ _ | refine blk_drew ?_ | refine blk_alloc ?_ _)); refine blk_put (cs := #[.int .i64 ((rd_T100 t106 x9_1).f0), .int .i64 ((rd_T100 t106 x9_1).f1), .int .u8 0]) ?_ 2 _ rfl; (with_reducible repeat (first | refine blk_drewN ?_ _ | refine blk_drew ?_ | refine blk_alloc ?_ _)); refine blk_put (cs := #[.int .i64 ((rd_T100 t106 x9_1).f0), .int .i64 0, .int .u8 0]) ?_ 1 _ rfl; (with_reducible repeat (first | refine blk_drewN ?_ _ | refine blk_drew ?_ | refine blk_alloc ?_ _)); refine blk_put (cs := #[.int .i64 0, .int .i64 0, .int .u8 0]) ?_ 0 _ rfl; (with_reducible repeat (first | refine blk_drewN ?_ _ | refine blk_drew ?_ | refine blk_alloc ?_ _)); exact BK128.out⟩
                                  have n4_ : Aside0 (Below w.heap.size w (((w78.setCell ⟨gb128, 0, none⟩ (.int .i64 ((rd_T100 t106 x9_1).f0))).setCell ⟨gb128, 1, none⟩ (.int .i64 ((rd_T100 t106 x9_1).f1))).setCell ⟨gb128, 2, none⟩ (.int .u8 ((rd_T100 t106 x9_1).f2)))) := ⟨by repeat (first | (with_reducible first | exact HB.out | apply below_alloc | apply pw_below_drewN | apply below_drew1 | refine below_set ?_ GE101.out | refine below_set ?_ GE128.out) | exact HB.out)⟩
                                  (try clear HO_5)
                                  (try clear HO_8)
                                  (try clear BK101)
                                  (try clear BK128)
                                  (try clear HB)
                                  generalize (((w78.setCell ⟨gb128, 0, none⟩ (.int .i64 ((rd_T100 t106 x9_1).f0))).setCell ⟨gb128, 1, none⟩ (.int .i64 ((rd_T100 t106 x9_1).f1))).setCell ⟨gb128, 2, none⟩ (.int .u8 ((rd_T100 t106 x9_1).f2))) = w81 at n0_ n1_ n2_ n3_ n4_ ⊢
                                  have HO_5 := n0_
                                  have HO_8 := n1_
                                  have BK101 := n2_
                                  have BK128 := n3_
                                  have HB := n4_
                                  clear n0_ n1_ n2_ n3_ n4_
                                  have n0_ := Aside0.mk (Kd.R_drew HO_5.out)
                                  have n1_ := Aside0.mk (Kd.R_drew HO_8.out)
                                  have n2_ := Aside0.mk (blk_drew BK101.out)
                                  have n3_ := Aside0.mk (blk_drew BK128.out)
                                  have n4_ := Aside0.mk (below_drew1 HB.out)
                                  clear HO_5
                                  clear HO_8
                                  clear BK101
                                  clear BK128
                                  clear HB
                                  have HO_5 := n0_
                                  have HO_8 := n1_
                                  have BK101 := n2_
                                  have BK128 := n3_
                                  have HB := n4_
                                  clear n0_ n1_ n2_ n3_ n4_
                                  have p142 : 0 ≤ ((ji39) : Int) := of_decide_eq_true (by first | (with_reducible assumption) | assumption)
                                  have q142 : (ji39) < (t106.length : Int) := of_decide_eq_true (by first | (with_reducible assumption) | assumption)
                                  obtain ⟨ad142, e142, hx142_0, hx142_1, hx142_2⟩ := at_T100 (Kd.R_reads' HO_5.out).2.2 (ji39) p142 q142
                                  obtain rfl : ad114 = ad142 := (by injection e142)
                                  replace p142 := eq_true p142
                                  replace q142 := eq_true q142
                                  refine start_ (n := 14) (S := fun w' => w'.cell? ⟨gb128, 0, none⟩ = some (.int .i64 ((rd_T100 t106 x9_1).f0)) ∧ w'.cell? ⟨gb128, 1, none⟩ = some (.int .i64 ((rd_T100 t106 x9_1).f1)) ∧ w'.cell? ⟨gb128, 2, none⟩ = some (.int .u8 ((rd_T100 t106 x9_1).f2)) ∧ w'.cell? (ad114.add (((ji39)).toNat * 3)) = some (.int .i64 ((rd_T100 t106 (ji39)).f0)) ∧ w'.cell? ⟨(ad114.add (((ji39)).toNat * 3)).block, (ad114.add (((ji39)).toNat * 3)).off + 1, none⟩ = some (.int .i64 ((rd_T100 t106 (ji39)).f1)) ∧ w'.cell? ⟨(ad114.add (((ji39)).toNat * 3)).block, (ad114.add (((ji39)).toNat * 3)).off + 2, none⟩ = some (.int .u8 ((rd_T100 t106 (ji39)).f2))) (ds := []) #[false, false, false, false, false, false, false, false, false, false, false, false, false, false] (by kernel_rfl) rfl rfl ⟨(blk_cell BK128.out 0).trans rfl, (blk_cell BK128.out 1).trans rfl, (blk_cell BK128.out 2).trans rfl, hx142_0, hx142_1, hx142_2⟩ (fun hHeld => ?_); refine with_tabW sloperef3_Parse.tab23 sloperef3_Parse.bits23 (fun HT_ HW_ => ?_)
                                  generalize w81.drew = w82 at HO_5 HO_8 BK101 BK128 HB hx142_0 hx142_1 hx142_2 hHeld ⊢
                                  refine pure_ (i := 0) (N := some 86) (v := ?_) (a' := ?_) #[true, false, false, false, false, false, false, false, false, false, false, false, false, false] rfl rfl (any_of HT_.out (by kernel_rfl)) (fun _ _ _ h => h) (Or.inl ⟨by rfl, ?_⟩) ?_ ?_
                                  rotate_left
                                  · intro w'
                                    go_simp
                                    with_reducible rfl
                                  rotate_left
                                  · simp only [Act.put, List.setIfInBounds_toArray, List.set_cons_zero, List.set_cons_succ, i64_w, i32_w]
                                    rfl
                                  refine pure_ (i := 1) (N := some 87) (v := ?_) (a' := ?_) #[true, true, false, false, false, false, false, false, false, false, false, false, false, false] rfl rfl (any_of HT_.out (by kernel_rfl)) (fun _ _ _ h => h) (Or.inl ⟨by rfl, ?_⟩) ?_ ?_
                                  rotate_left
                                  · intro w'
                                    go_simp
                                    with_reducible rfl
                                  rotate_left
                                  · simp only [Act.put, List.setIfInBounds_toArray, List.set_cons_zero, List.set_cons_succ, i64_w, i32_w]
                                    rfl
                                  refine pure_ (i := 2) (N := some 88) (v := ?_) (a' := ?_) #[true, true, true, false, false, false, false, false, false, false, false, false, false, false] rfl rfl (any_of HT_.out (by kernel_rfl)) (fun _ _ _ h => h) (Or.inl ⟨by rfl, ?_⟩) ?_ ?_
                                  rotate_left
                                  · intro w'
                                    go_simp
                                    with_reducible rfl
                                  rotate_left
                                  · simp only [Act.put, List.setIfInBounds_toArray, List.set_cons_zero, List.set_cons_succ, i64_w, i32_w]
                                    rfl
                                  refine pure_ (i := 3) (N := some 89) (v := ?_) (a' := ?_) #[true, true, true, true, false, false, false, false, false, false, false, false, false, false] rfl rfl (any_of HT_.out (by kernel_rfl)) (fun _ _ _ h => h) (Or.inl ⟨by rfl, ?_⟩) ?_ ?_
                                  rotate_left
                                  · intro w'
                                    go_simp
                                    with_reducible rfl
                                  rotate_left
                                  · simp only [Act.put, List.setIfInBounds_toArray, List.set_cons_zero, List.set_cons_succ, i64_w, i32_w]
                                    rfl
                                  refine pure_ (i := 5) (N := some 91) (v := ?_) (a' := ?_) #[true, true, true, true, false, true, false, false, false, false, false, false, false, false] rfl rfl (any_of HT_.out (by kernel_rfl)) (fun _ _ _ h => h) (Or.inl ⟨by rfl, ?_⟩) ?_ ?_
                                  rotate_left
                                  · intro w'
                                    go_simp
                                    with_reducible rfl
                                  rotate_left
                                  · simp only [Act.put, List.setIfInBounds_toArray, List.set_cons_zero, List.set_cons_succ, i64_w, i32_w]
                                    rfl
                                  refine pure_ (i := 6) (N := some 92) (v := ?_) (a' := ?_) #[true, true, true, true, false, true, true, false, false, false, false, false, false, false] rfl rfl (any_of HT_.out (by kernel_rfl)) (fun _ _ _ h => h) (Or.inl ⟨by rfl, ?_⟩) ?_ ?_
                                  rotate_left
                                  · intro w'
                                    go_simp
                                    with_reducible rfl
                                  rotate_left
                                  · simp only [Act.put, List.setIfInBounds_toArray, List.set_cons_zero, List.set_cons_succ, i64_w, i32_w]
                                    rfl
                                  refine pure_ (i := 7) (N := some 93) (v := ?_) (a' := ?_) #[true, true, true, true, false, true, true, true, false, false, false, false, false, false] rfl rfl (any_of HT_.out (by kernel_rfl)) (fun _ _ _ h => h) (Or.inl ⟨by rfl, ?_⟩) ?_ ?_
                                  rotate_left
                                  · intro w'
                                    go_simp
                                    with_reducible rfl
                                  rotate_left
                                  · simp only [Act.put, List.setIfInBounds_toArray, List.set_cons_zero, List.set_cons_succ, i64_w, i32_w]
                                    rfl
                                  refine pure_ (i := 8) (N := some 94) (v := ?_) (a' := ?_) #[true, true, true, true, false, true, true, true, true, false, false, false, false, false] rfl rfl (any_of HT_.out (by kernel_rfl)) (fun _ _ _ h => h) (Or.inl ⟨by rfl, ?_⟩) ?_ ?_
                                  rotate_left
                                  · intro w'
                                    go_simp
                                    with_reducible rfl
                                  rotate_left
                                  · simp only [Act.put, List.setIfInBounds_toArray, List.set_cons_zero, List.set_cons_succ, i64_w, i32_w]
                                    rfl
                                  refine pure_ (i := 9) (N := some 95) (v := ?_) (a' := ?_) #[true, true, true, true, false, true, true, true, true, true, false, false, false, false] rfl rfl (any_of HT_.out (by kernel_rfl)) (fun _ _ _ h => h) (Or.inl ⟨by rfl, ?_⟩) ?_ ?_
                                  rotate_left
                                  · intro w'
                                    go_simp
                                    with_reducible rfl
                                  rotate_left
                                  · simp only [Act.put, List.setIfInBounds_toArray, List.set_cons_zero, List.set_cons_succ, i64_w, i32_w]
                                    rfl
                                  refine take_ (i := 4) (N := some 90) (v := ?_) (a' := ?_) #[true, true, true, true, true, true, true, true, true, true, false, false, false, false] rfl rfl (take_ofW HT_.out HW_.out (by kernel_rfl)) (fun _ _ _ h => h) (Or.inl ⟨by rfl, ?_⟩) hHeld ?_ ?_
                                  rotate_left
                                  · rintro w' ⟨s0, s1, s2, s3, s4, s5⟩
                                    go_simp
                                    with_reducible rfl
                                  rotate_left
                                  · simp only [Act.put, List.setIfInBounds_toArray, List.set_cons_zero, List.set_cons_succ, i64_w, i32_w]
                                    rfl
                                  refine take_ (i := 10) (N := some 96) (v := ?_) (a' := ?_) #[true, true, true, true, true, true, true, true, true, true, true, false, false, false] rfl rfl (take_ofW HT_.out HW_.out (by kernel_rfl)) (fun _ _ _ h => h) (Or.inl ⟨by rfl, ?_⟩) hHeld ?_ ?_
                                  rotate_left
                                  · rintro w' ⟨s0, s1, s2, s3, s4, s5⟩
                                    go_simp
                                    with_reducible rfl
                                  rotate_left
                                  · simp only [Act.put, List.setIfInBounds_toArray, List.set_cons_zero, List.set_cons_succ, i64_w, i32_w]
                                    rfl
                                  refine pure_ (i := 11) (N := some 97) (v := ?_) (a' := ?_) #[true, true, true, true, true, true, true, true, true, true, true, true, false, false] rfl rfl (any_of HT_.out (by kernel_rfl)) (fun _ _ _ h => h) (Or.inl ⟨by rfl, ?_⟩) ?_ ?_
                                  rotate_left
                                  · intro w'
                                    go_simp
                                    with_reducible rfl
                                  rotate_left
                                  · simp only [Act.put, List.setIfInBounds_toArray, List.set_cons_zero, List.set_cons_succ, i64_w, i32_w]
                                    rfl
                                  refine pure_ (i := 12) (N := some 98) (v := ?_) (a' := ?_) #[true, true, true, true, true, true, true, true, true, true, true, true, true, false] rfl rfl (any_of HT_.out (by kernel_rfl)) (fun _ _ _ h => h) (Or.inl ⟨by rfl, ?_⟩) ?_ ?_
                                  rotate_left
                                  · intro w'
                                    go_simp
                                    with_reducible rfl
                                  rotate_left
                                  · simp only [Act.put, List.setIfInBounds_toArray, List.set_cons_zero, List.set_cons_succ, i64_w, i32_w]
                                    rfl
                                  refine pure_ (i := 13) (N := some 99) (v := ?_) (a' := ?_) #[true, true, true, true, true, true, true, true, true, true, true, true, true, true] rfl rfl (any_of HT_.out (by kernel_rfl)) (fun _ _ _ h => h) (Or.inl ⟨by rfl, ?_⟩) ?_ ?_
                                  rotate_left
                                  · intro w'
                                    go_simp
                                    with_reducible rfl
                                  rotate_left
                                  · simp only [Act.put, List.setIfInBounds_toArray, List.set_cons_zero, List.set_cons_succ, i64_w, i32_w]
                                    rfl
                                  refine done_ (done_of HT_.out (by kernel_rfl)) ?_
                                  try go_wp2
                                  have n0_ := Aside0.mk (Kd.R_drew HO_5.out)
                                  have n1_ := Aside0.mk (Kd.R_drew HO_8.out)
                                  have n2_ := Aside0.mk (blk_drew BK101.out)
                                  have n3_ := Aside0.mk (blk_drew BK128.out)
                                  have n4_ := Aside0.mk (below_drew1 HB.out)
                                  clear HO_5
                                  clear HO_8
                                  clear BK101
                                  clear BK128
                                  clear HB
                                  have HO_5 := n0_
                                  have HO_8 := n1_
                                  have BK101 := n2_
                                  have BK128 := n3_
                                  have HB := n4_
                                  clear n0_ n1_ n2_ n3_ n4_
                                  refine start_ (n := 6) (S := fun w' => w'.cell? ⟨gb128, 0, none⟩ = some (.int .i64 ((rd_T100 t106 x9_1).f0)) ∧ w'.cell? ⟨gb128, 1, none⟩ = some (.int .i64 ((rd_T100 t106 x9_1).f1)) ∧ w'.cell? ⟨gb128, 2, none⟩ = some (.int .u8 ((rd_T100 t106 x9_1).f2))) (ds := []) #[false, false, false, false, false, false] (by kernel_rfl) rfl rfl ⟨(blk_cell BK128.out 0).trans rfl, (blk_cell BK128.out 1).trans rfl, (blk_cell BK128.out 2).trans rfl⟩ (fun hHeld => ?_)
                                  generalize w82.drew = w83 at HO_5 HO_8 BK101 BK128 HB hHeld ⊢
                                  refine pure_ (i := 1) (N := some 101) (v := ?_) (a' := ?_) #[false, true, false, false, false, false] rfl rfl (by kernel_rfl) (fun _ _ _ h => h) (Or.inl ⟨by rfl, ?_⟩) ?_ ?_
                                  rotate_left
                                  · intro w'
                                    go_simp
                                    with_reducible rfl
                                  rotate_left
                                  · simp only [Act.put, List.setIfInBounds_toArray, List.set_cons_zero, List.set_cons_succ, i64_w, i32_w]
                                    rfl
                                  refine take_ (i := 2) (N := some 102) (v := ?_) (a' := ?_) #[false, true, true, false, false, false] rfl rfl (by kernel_rfl) (fun _ _ _ h => h) (Or.inl ⟨by rfl, ?_⟩) hHeld ?_ ?_
                                  rotate_left
                                  · rintro w' ⟨s0, s1, s2⟩
                                    go_simp
                                    with_reducible rfl
                                  rotate_left
                                  · simp only [Act.put, List.setIfInBounds_toArray, List.set_cons_zero, List.set_cons_succ, i64_w, i32_w]
                                    rfl
                                  refine one_ (i := 0) (N := some 100) #[true, true, true, false, false, false] rfl rfl (by kernel_rfl) (by decide) (fun K hK => ?_)
                                  refine goes_ Try.func60 (by kernel_rfl) rfl #[] (by rfl) rfl rfl (by (try simp only [List.map_toArray, List.map_cons, List.map_nil]); first | done | rfl | (simp only [List.length_drop, List.length_take]; rfl)) ?_
                                  with_reducible refine (sloperef3_none.calls  t143 t144 _ A77.out).mono ?_
                                  rintro e w84 ⟨v145, rfl, ho0, hb⟩
                                  refine ⟨_, rfl, ?_⟩
                                  have n0_ := Aside0.mk (Kd.R_below (by (with_reducible repeat (first | apply Kd.R_alloc | apply Kd.R_drewN | apply Kd.R_drew)); exact HO_5.out) hb)
                                  have n1_ := Aside0.mk (Kd.R_below (by (with_reducible repeat (first | apply Kd.R_alloc | apply Kd.R_drewN | apply Kd.R_drew)); exact HO_8.out) hb)
                                  have n2_ := Aside0.mk (Kd.R_lower ho0 (below_size (by repeat (first | (with_reducible first | exact HB.out | apply below_alloc | apply pw_below_drewN | apply below_drew1 | refine below_set ?_ GE101.out | refine below_set ?_ GE128.out) | exact HB.out))))
                                  have n3_ := Aside0.mk (blk_below (g := gb101) (o := .cells #[.int .i64 x102000_1, .slice none 0 0] 26 (0, 0)) (by (with_reducible repeat (first | refine blk_drewN ?_ _ | refine blk_drew ?_ | refine blk_alloc ?_ _)); exact BK101.out) hb)
                                  have n4_ := Aside0.mk (blk_below (g := gb128) (o := .cells #[.int .i64 ((rd_T100 t106 x9_1).f0), .int .i64 ((rd_T100 t106 x9_1).f1), .int .u8 ((rd_T100 t106 x9_1).f2)] 100 (0, 0)) (by (with_reducible repeat (first | refine blk_drewN ?_ _ | refine blk_drew ?_ | refine blk_alloc ?_ _)); exact BK128.out) hb)
                                  have n5_ := Aside0.mk (below_step (by repeat (first | (with_reducible first | exact HB.out | apply below_alloc | apply pw_below_drewN | apply below_drew1 | refine below_set ?_ GE101.out | refine below_set ?_ GE128.out) | exact HB.out)) hb)
                                  clear HO_5
                                  clear HO_8
                                  clear BK101
                                  clear BK128
                                  clear HB
                                  have HO_5 := n0_
                                  have HO_8 := n1_
                                  have HO146 := n2_
                                  have BK101 := n3_
                                  have BK128 := n4_
                                  have HB := n5_
                                  clear n0_ n1_ n2_ n3_ n4_ n5_
                                  (try clear hb)
                                  (try clear hb2)
                                  (try clear hk)
                                  (try clear hi)
                                  (try clear ho0)
                                  obtain ⟨Ao86, co86, eo86⟩ := Kd.R_slice HO146.out
                                  (first | subst eo86 | (injection eo86 with f1_ f2_ f3_; have f4_ := f1_.symm; have f5_ := f3_.symm; clear f1_ f2_ f3_; subst f4_; subst f5_))
                                  refine hK.out _ _ ⟨(blk_cell BK128.out 0).trans rfl, (blk_cell BK128.out 1).trans rfl, (blk_cell BK128.out 2).trans rfl⟩ (fun hHeld => ?_)
                                  clear hK K
                                  refine norm_ (a' := ?_) ?_ ?_
                                  rotate_left
                                  · show Act.put _ (some 100) _ = _
                                    simp only [Act.put, List.setIfInBounds_toArray, List.set_cons_zero, List.set_cons_succ, i64_w, i32_w]
                                    rfl
                                  refine one_ (i := 3) (N := none) #[true, true, true, true, false, false] rfl rfl (by kernel_rfl) (by decide) (fun K hK => ?_)
                                  have hs85 : w84.cell? ⟨gb101, 0, none⟩ = some (.int .i64 x102000_1) := (blk_cell BK101.out 0).trans rfl
                                  have hfs85 := blk_frozen BK101.out 0
                                  have hns85_1 := NB128_101.out
                                  have hms85_1 := NB101_128.out
                                  have hs87 : w84.cell? ⟨gb101, 1, none⟩ = some (.slice none 0 0) := (blk_cell BK101.out 1).trans rfl
                                  have hfs87 := blk_frozen BK101.out 1
                                  have hns87_1 := NB128_101.out
                                  have hms87_1 := NB101_128.out
                                  refine skip_ (w1 := ?_) (by rfl) rfl ?_ ?_
                                  rotate_left
                                  · go_simp
                                    rfl
                                  refine hK.out _ _ ⟨((cell_far (p := ⟨gb101, _, none⟩) NB128_101.out _).trans (((cell_far (p := ⟨gb101, _, none⟩) NB128_101.out _).trans (hHeld.1)))), ((cell_far (p := ⟨gb101, _, none⟩) NB128_101.out _).trans (((cell_far (p := ⟨gb101, _, none⟩) NB128_101.out _).trans (hHeld.2.1)))), ((cell_far (p := ⟨gb101, _, none⟩) NB128_101.out _).trans (((cell_far (p := ⟨gb101, _, none⟩) NB128_101.out _).trans (hHeld.2.2))))⟩ (fun hHeld => ?_)
                                  clear hK K
                                  refine pure_ (i := 4) (N := some 3) (v := ?_) (a' := ?_) #[true, true, true, true, true, false] rfl rfl (by kernel_rfl) (fun _ _ _ h => h) (Or.inl ⟨by rfl, ?_⟩) ?_ ?_
                                  rotate_left
                                  · intro w'
                                    go_simp
                                    with_reducible rfl
                                  rotate_left
                                  · simp only [Act.put, List.setIfInBounds_toArray, List.set_cons_zero, List.set_cons_succ, i64_w, i32_w]
                                    rfl
                                  refine pure_ (i := 5) (N := some 4) (v := ?_) (a' := ?_) #[true, true, true, true, true, true] rfl rfl (by kernel_rfl) (fun _ _ _ h => h) (Or.inl ⟨by rfl, ?_⟩) ?_ ?_
                                  rotate_left
                                  · intro w'
                                    go_simp
                                    with_reducible rfl
                                  rotate_left
                                  · simp only [Act.put, List.setIfInBounds_toArray, List.set_cons_zero, List.set_cons_succ, i64_w, i32_w]
                                    rfl
                                  refine done_ (by kernel_rfl) ?_
                                  try go_wp2
                                  refine bodyPost_ret (results_ctt rfl _ _ gb101 26 #[.int .i64 t143, .slice Ao86 t144.length co86] (0, 0) _ rfl (by (with_reducible repeat (first | refine blk_drewN ?_ _ | refine blk_drew ?_ | refine blk_alloc ?_ _)); refine blk_put (cs := #[.int .i64 t143, .slice none 0 0]) ?_ 1 _ rfl; (with_reducible repeat (first | refine blk_drewN ?_ _ | refine blk_drew ?_ | refine blk_alloc ?_ _)); refine blk_put (cs := #[.int .i64 x102000_1, .slice none 0 0]) ?_ 0 _ rfl; (with_reducible repeat (first | refine blk_drewN ?_ _ | refine blk_drew ?_ | refine blk_alloc ?_ _)); exact BK101.out) Try.underlying26 rfl (by kernel_rfl)) rfl ?_
                                  exact ⟨_, by first | rfl | (simp [errW_none, errW_some] <;> rfl) | (simp only [← hji39]; first | rfl | (simp [errW_none, errW_some] <;> rfl)) | (simp [*, errW_none, errW_some] <;> rfl), by (with_reducible repeat (first | apply Kd.R_alloc | apply Kd.R_drewN | apply Kd.R_drew)); exact Kd.R_mono (Kd.R_far (p := ⟨gb101, 1, none⟩) (Kd.R_far (p := ⟨gb101, 0, none⟩) (Kd.R_types HO146.out BK101.out (by decide)) (fun _ hk => hk.2) (.int .i64 t143)) (fun _ hk => hk.2) (.slice Ao86 t144.length co86)) (fun _ hk => trivial), by repeat (first | (with_reducible first | exact HB.out | apply below_alloc | apply pw_below_drewN | apply below_drew1 | refine below_set ?_ GE101.out | refine below_set ?_ GE128.out) | exact HB.out)⟩
                                · rw [if_neg c76] at H
                                  have c76b0 : decide (((rd_T100 t106 x9_1).f0) < (wrap64 (((rd_T100 t106 (ji39)).f0) + 2))) = false := decide_eq_false c76
                                  clear c76
                                  by_cases c88 : 0 ≤ ((rd_T100 t106 x9_1).f0)
                                  · rw [if_pos c88] at H
                                    have c88b0 : decide (0 ≤ ((rd_T100 t106 x9_1).f0)) = true := decide_eq_true c88
                                    clear c88
                                    by_cases c89 : ((rd_T100 t106 x9_1).f0) < (x8_1.length : Int)
                                    · rw [if_pos c89] at H
                                      have c89b0 : decide (((rd_T100 t106 x9_1).f0) < (x8_1.length : Int)) = true := decide_eq_true c89
                                      clear c89
                                      obtain ⟨y147, hy147⟩ : ∃ y_ : List Bool, y_ = (x8_1.set (((rd_T100 t106 x9_1).f0) : Int).toNat true) := ⟨_, rfl⟩
                                      replace H : (sloperef3_Parse.l0 k1 t106 ((rd_T100 t106 0).f0) y147 (wrap64 (x9_1 + 1))) = some (r1, r2, r3, r4) := by first | (rw [hy147]; with_reducible exact H) | (have H2_ := (Option.bind_some _ _).symm.trans H; rw [hy147]; with_reducible exact H2_) | (have H2_ := (Option.bind_some _ _).symm.trans H; with_reducible exact H2_) | with_reducible exact H | (rw [hy147]; exact H) | exact H
                                      have Ny147 := Aside0.mk hy147
                                      clear hy147
                                      have H' := Aside0.mk H
                                      clear H
                                      have p127 : 0 ≤ (x9_1 : Int) := of_decide_eq_true (by first | (with_reducible assumption) | assumption)
                                      have q127 : x9_1 < (t106.length : Int) := of_decide_eq_true (by first | (with_reducible assumption) | assumption)
                                      obtain ⟨ad127, e127, hx127_0, hx127_1, hx127_2⟩ := at_T100 (Kd.R_reads' HO_5.out).2.2 x9_1 p127 q127
                                      obtain rfl : ad114 = ad127 := (by injection e127)
                                      replace p127 := eq_true p127
                                      replace q127 := eq_true q127
                                      try go_wp2_with (first | ((with_reducible refine gate_dst (N := 10) rfl ?_); refine box_event ?hg (N := 10) ?hd (cs := #[.int .i64 0, .int .i64 0, .int .u8 0]) (t := 100) ?hr ?_; (case hd => rfl); (case hg => rfl); (case hr => first | (go_simp; done) | (go_simp; rfl)); intro gb128 hg w91 hbox hb; have n0_ := Aside0.mk (Kd.R_below (Kd.R_elderB (by (with_reducible repeat (first | apply Kd.R_alloc | apply Kd.R_drewN | apply Kd.R_drew)); exact HO_5.out) gb128 (Nat.le_of_eq hg.symm)) hb); have n1_ := Aside0.mk (Kd.R_below (by (with_reducible repeat (first | apply Kd.R_alloc | apply Kd.R_drewN | apply Kd.R_drew)); exact HO_8.out) hb); have n2_ := Aside0.mk (blk_below (g := gb101) (o := .cells #[.int .i64 x102000_1, .slice none 0 0] 26 (0, 0)) (by (with_reducible repeat (first | refine blk_drewN ?_ _ | refine blk_drew ?_ | refine blk_alloc ?_ _)); exact BK101.out) hb); have n3_ := Aside0.mk (below_step (by repeat (first | (with_reducible first | exact HB.out | apply below_alloc | apply pw_below_drewN | apply below_drew1 | refine below_set ?_ GE101.out) | exact HB.out)) hb); have n4_ := Aside0.mk (hbox); have n5_ := Aside0.mk ((by rw [hg]; exact (below_size (by repeat (first | (with_reducible first | exact HB.out | apply below_alloc | apply pw_below_drewN | apply below_drew1 | refine below_set ?_ GE101.out) | exact HB.out))) : w.heap.size ≤ gb128)); have n6_ := Aside0.mk ((by rw [hg]; exact (below_size (by repeat (first | (with_reducible first | exact HB.out | apply below_alloc | apply pw_below_drewN | apply below_drew1 | refine below_set ?_ GE101.out) | exact HB.out))) : w.heap.size ≤ gb128)); have n7_ := Aside0.mk ((by rw [hg]; exact Nat.ne_of_lt (blk_lt (g := gb101) (o := .cells #[.int .i64 x102000_1, .slice none 0 0] 26 (0, 0)) (by (with_reducible repeat (first | refine blk_drewN ?_ _ | refine blk_drew ?_ | refine blk_alloc ?_ _)); exact BK101.out)) : gb101 ≠ gb128)); have n8_ := Aside0.mk ((by rw [hg]; exact Nat.ne_of_gt (blk_lt (g := gb101) (o := .cells #[.int .i64 x102000_1, .slice none 0 0] 26 (0, 0)) (by (with_reducible repeat (first | refine blk_drewN ?_ _ | refine blk_drew ?_ | refine blk_alloc ?_ _)); exact BK101.out)) : gb128 ≠ gb101)); clear HO_5; clear HO_8; clear BK101; clear HB; have HO_5 := n0_; have HO_8 := n1_; have BK101 := n2_; have HB := n3_; have BK128 := n4_; have GW128 := n5_; have GE128 := n6_; have NB101_128 := n7_; have NB128_101 := n8_; clear n0_ n1_ n2_ n3_ n4_ n5_ n6_ n7_ n8_; clear hb hbox hg; have hnb92 := NB128_101.out; have hnc92 := NB101_128.out; have hcz93_0 : w91.cell? ⟨gb128, 0, none⟩ = some (.int .i64 0) := (blk_cell BK128.out 0).trans rfl; have hcz93_1 : w91.cell? ⟨gb128, 1, none⟩ = some (.int .i64 0) := (blk_cell BK128.out 1).trans rfl; have hcz93_2 : w91.cell? ⟨gb128, 2, none⟩ = some (.int .u8 0) := (blk_cell BK128.out 2).trans rfl; have hfz93_0 := blk_frozen BK128.out 0; have hfz93_1 := blk_frozen BK128.out 1; have hfz93_2 := blk_frozen BK128.out 2; have p133 : 0 ≤ ((ji39) : Int) := of_decide_eq_true (by first | (with_reducible assumption) | assumption); have q133 : (ji39) < (t106.length : Int) := of_decide_eq_true (by first | (with_reducible assumption) | assumption); obtain ⟨ad133, e133, hx133_0, hx133_1, hx133_2⟩ := at_T100 (Kd.R_reads' HO_5.out).2.2 (ji39) p133 q133; obtain rfl : ad114 = ad133 := (by injection e133); have hn133_0 : ad114.block ≠ gb128 := Kd.own_blk ((fun e_ => by have h_ := HO_5.out.1 _ e_.symm; first | exact h_ rfl | exact h_.2 rfl)); have hn133_1 : ad114.block ≠ gb128 := Kd.own_blk ((fun e_ => by have h_ := HO_5.out.1 _ e_.symm; first | exact h_ rfl | exact h_.2 rfl)); have hn133_2 : ad114.block ≠ gb128 := Kd.own_blk ((fun e_ => by have h_ := HO_5.out.1 _ e_.symm; first | exact h_ rfl | exact h_.2 rfl)); replace hx133_0 := (cell_far (p := ⟨gb128, 0, none⟩) (by first | (rw [add_block]; exact hn133_0) | (show (Addr.add _ _).block ≠ _; rw [add_block]; exact hn133_0) | exact hn133_0) (.int .i64 ((rd_T100 t106 x9_1).f0))).trans hx133_0; replace hx133_1 := (cell_far (p := ⟨gb128, 0, none⟩) (by first | (rw [add_block]; exact hn133_0) | (show (Addr.add _ _).block ≠ _; rw [add_block]; exact hn133_0) | exact hn133_0) (.int .i64 ((rd_T100 t106 x9_1).f0))).trans hx133_1; replace hx133_2 := (cell_far (p := ⟨gb128, 0, none⟩) (by first | (rw [add_block]; exact hn133_0) | (show (Addr.add _ _).block ≠ _; rw [add_block]; exact hn133_0) | exact hn133_0) (.int .i64 ((rd_T100 t106 x9_1).f0))).trans hx133_2; replace hx133_0 := (cell_far (p := ⟨gb128, 1, none⟩) (by first | (rw [add_block]; exact hn133_1) | (show (Addr.add _ _).block ≠ _; rw [add_block]; exact hn133_1) | exact hn133_1) (.int .i64 ((rd_T100 t106 x9_1).f1))).trans hx133_0; replace hx133_1 := (cell_far (p := ⟨gb128, 1, none⟩) (by first | (rw [add_block]; exact hn133_1) | (show (Addr.add _ _).block ≠ _; rw [add_block]; exact hn133_1) | exact hn133_1) (.int .i64 ((rd_T100 t106 x9_1).f1))).trans hx133_1; replace hx133_2 := (cell_far (p := ⟨gb128, 1, none⟩) (by first | (rw [add_block]; exact hn133_1) | (show (Addr.add _ _).block ≠ _; rw [add_block]; exact hn133_1) | exact hn133_1) (.int .i64 ((rd_T100 t106 x9_1).f1))).trans hx133_2; replace hx133_0 := (cell_far (p := ⟨gb128, 2, none⟩) (by first | (rw [add_block]; exact hn133_2) | (show (Addr.add _ _).block ≠ _; rw [add_block]; exact hn133_2) | exact hn133_2) (.int .u8 ((rd_T100 t106 x9_1).f2))).trans hx133_0; replace hx133_1 := (cell_far (p := ⟨gb128, 2, none⟩) (by first | (rw [add_block]; exact hn133_2) | (show (Addr.add _ _).block ≠ _; rw [add_block]; exact hn133_2) | exact hn133_2) (.int .u8 ((rd_T100 t106 x9_1).f2))).trans hx133_1; replace hx133_2 := (cell_far (p := ⟨gb128, 2, none⟩) (by first | (rw [add_block]; exact hn133_2) | (show (Addr.add _ _).block ≠ _; rw [add_block]; exact hn133_2) | exact hn133_2) (.int .u8 ((rd_T100 t106 x9_1).f2))).trans hx133_2; clear hn133_0; clear hn133_1; clear hn133_2; replace p133 := eq_true p133; replace q133 := eq_true q133))
                                      have n0_ : Aside0 (Kd.R k100 100 (((w91.setCell ⟨gb128, 0, none⟩ (.int .i64 ((rd_T100 t106 x9_1).f0))).setCell ⟨gb128, 1, none⟩ (.int .i64 ((rd_T100 t106 x9_1).f1))).setCell ⟨gb128, 2, none⟩ (.int .u8 ((rd_T100 t106 x9_1).f2))) w.heap.size (fun k_ => k_ ≠ gb128) (.slice (some ad114) t106.length co23) t106) := ⟨by (with_reducible repeat (first | apply Kd.R_alloc | apply Kd.R_drewN | apply Kd.R_drew)); exact Kd.R_mono (Kd.R_far (p := ⟨gb128, 2, none⟩) (Kd.R_far (p := ⟨gb128, 1, none⟩) (Kd.R_far (p := ⟨gb128, 0, none⟩) (Kd.R_mono HO_5.out (fun k_ hk => (⟨hk, hk.2⟩ : _ ∧ k_ ≠ gb128))) (fun _ hk => hk.2) (.int .i64 ((rd_T100 t106 x9_1).f0))) (fun _ hk => hk.2) (.int .i64 ((rd_T100 t106 x9_1).f1))) (fun _ hk => hk.2) (.int .u8 ((rd_T100 t106 x9_1).f2))) (fun _ hk => hk.1.2)⟩
                                      have n1_ : Aside0 (Kd.R Kd.bool 4 (((w91.setCell ⟨gb128, 0, none⟩ (.int .i64 ((rd_T100 t106 x9_1).f0))).setCell ⟨gb128, 1, none⟩ (.int .i64 ((rd_T100 t106 x9_1).f1))).setCell ⟨gb128, 2, none⟩ (.int .u8 ((rd_T100 t106 x9_1).f2))) w.heap.size (fun _ => True) v121 x8_1) := ⟨by (with_reducible repeat (first | apply Kd.R_alloc | apply Kd.R_drewN | apply Kd.R_drew)); exact Kd.R_mono (Kd.R_far (p := ⟨gb128, 2, none⟩) (Kd.R_far (p := ⟨gb128, 1, none⟩) (Kd.R_far (p := ⟨gb128, 0, none⟩) (Kd.R_types HO_8.out BK128.out (by decide)) (fun _ hk => hk.2) (.int .i64 ((rd_T100 t106 x9_1).f0))) (fun _ hk => hk.2) (.int .i64 ((rd_T100 t106 x9_1).f1))) (fun _ hk => hk.2) (.int .u8 ((rd_T100 t106 x9_1).f2))) (fun _ hk => trivial)⟩
                                      have n2_ : Aside0 ((((w91.setCell ⟨gb128, 0, none⟩ (.int .i64 ((rd_T100 t106 x9_1).f0))).setCell ⟨gb128, 1, none⟩ (.int .i64 ((rd_T100 t106 x9_1).f1))).setCell ⟨gb128, 2, none⟩ (.int .u8 ((rd_T100 t106 x9_1).f2))).heap[gb101]? = some (.cells #[.int .i64 x102000_1, .slice none 0 0] 26 (0, 0))) := ⟨by (with_reducible repeat (first | refine blk_drewN ?_ _ | refine blk_drew ?_ | refine blk_alloc ?_ _)); refine blk_far ?_ NB101_128.out _; (with_reducible repeat (first | refine blk_drewN ?_ _ | refine blk_drew ?_ | refine blk_alloc ?_ _)); refine blk_far ?_ NB101_128.out _; (with_reducible repeat (first | refine blk_drewN ?_ _ | refine blk_drew ?_ | refine blk_alloc ?_ _)); refine blk_far ?_ NB101_128.out _; (with_reducible repeat (first | refine blk_drewN ?_ _ | refine blk_drew ?_ | refine blk_alloc ?_ _)); exact BK101.out⟩
                                      have n3_ : Aside0 ((((w91.setCell ⟨gb128, 0, none⟩ (.int .i64 ((rd_T100 t106 x9_1).f0))).setCell ⟨gb128, 1, none⟩ (.int .i64 ((rd_T100 t106 x9_1).f1))).setCell ⟨gb128, 2, none⟩ (.int .u8 ((rd_T100 t106 x9_1).f2))).heap[gb128]? = some (.cells #[.int .i64 ((rd_T100 t106 x9_1).f0), .int .i64 ((rd_T100 t106 x9_1).f1), .int .u8 ((rd_T100 t106 x9_1).f2)] 100 (0, 0))) := ⟨by (with_reducible repeat (first | refine blk_drewN ?_ _ | refine blk_drew ?_ | refine blk_alloc ?_ _)); refine blk_put (cs := #[.int .i64 ((rd_T100 t106 x9_1).f0), .int .i64 ((rd_T100 t106 x9_1).f1), .int .u8 0]) ?_ 2 _ rfl; (with_reducible repeat (first | refine blk_drewN ?_ _ | refine blk_drew ?_ | refine blk_alloc ?_ _)); refine blk_put (cs := #[.int .i64 ((rd_T100 t106 x9_1).f0), .int .i64 0, .int .u8 0]) ?_ 1 _ rfl; (with_reducible repeat (first | refine blk_drewN ?_ _ | refine blk_drew ?_ | refine blk_alloc ?_ _)); refine blk_put (cs := #[.int .i64 0, .int .i64 0, .int .u8 0]) ?_ 0 _ rfl; (with_reducible repeat (first | refine blk_drewN ?_ _ | refine blk_drew ?_ | refine blk_alloc ?_ _)); exact BK128.out⟩
                                      have n4_ : Aside0 (Below w.heap.size w (((w91.setCell ⟨gb128, 0, none⟩ (.int .i64 ((rd_T100 t106 x9_1).f0))).setCell ⟨gb128, 1, none⟩ (.int .i64 ((rd_T100 t106 x9_1).f1))).setCell ⟨gb128, 2, none⟩ (.int .u8 ((rd_T100 t106 x9_1).f2)))) := ⟨by repeat (first | (with_reducible first | exact HB.out | apply below_alloc | apply pw_below_drewN | apply below_drew1 | refine below_set ?_ GE101.out | refine below_set ?_ GE128.out) | exact HB.out)⟩
                                      (try clear HO_5)
                                      (try clear HO_8)
                                      (try clear BK101)
                                      (try clear BK128)
                                      (try clear HB)
                                      generalize (((w91.setCell ⟨gb128, 0, none⟩ (.int .i64 ((rd_T100 t106 x9_1).f0))).setCell ⟨gb128, 1, none⟩ (.int .i64 ((rd_T100 t106 x9_1).f1))).setCell ⟨gb128, 2, none⟩ (.int .u8 ((rd_T100 t106 x9_1).f2))) = w94 at n0_ n1_ n2_ n3_ n4_ ⊢
                                      have HO_5 := n0_
                                      have HO_8 := n1_
                                      have BK101 := n2_
                                      have BK128 := n3_
                                      have HB := n4_
                                      clear n0_ n1_ n2_ n3_ n4_
                                      have n0_ := Aside0.mk (Kd.R_drew HO_5.out)
                                      have n1_ := Aside0.mk (Kd.R_drew HO_8.out)
                                      have n2_ := Aside0.mk (blk_drew BK101.out)
                                      have n3_ := Aside0.mk (blk_drew BK128.out)
                                      have n4_ := Aside0.mk (below_drew1 HB.out)
                                      clear HO_5
                                      clear HO_8
                                      clear BK101
                                      clear BK128
                                      clear HB
                                      have HO_5 := n0_
                                      have HO_8 := n1_
                                      have BK101 := n2_
                                      have BK128 := n3_
                                      have HB := n4_
                                      clear n0_ n1_ n2_ n3_ n4_
                                      have p142 : 0 ≤ ((ji39) : Int) := of_decide_eq_true (by first | (with_reducible assumption) | assumption)
                                      have q142 : (ji39) < (t106.length : Int) := of_decide_eq_true (by first | (with_reducible assumption) | assumption)
                                      obtain ⟨ad142, e142, hx142_0, hx142_1, hx142_2⟩ := at_T100 (Kd.R_reads' HO_5.out).2.2 (ji39) p142 q142
                                      obtain rfl : ad114 = ad142 := (by injection e142)
                                      replace p142 := eq_true p142
                                      replace q142 := eq_true q142
                                      refine start_ (n := 14) (S := fun w' => w'.cell? ⟨gb128, 0, none⟩ = some (.int .i64 ((rd_T100 t106 x9_1).f0)) ∧ w'.cell? ⟨gb128, 1, none⟩ = some (.int .i64 ((rd_T100 t106 x9_1).f1)) ∧ w'.cell? ⟨gb128, 2, none⟩ = some (.int .u8 ((rd_T100 t106 x9_1).f2)) ∧ w'.cell? (ad114.add (((ji39)).toNat * 3)) = some (.int .i64 ((rd_T100 t106 (ji39)).f0)) ∧ w'.cell? ⟨(ad114.add (((ji39)).toNat * 3)).block, (ad114.add (((ji39)).toNat * 3)).off + 1, none⟩ = some (.int .i64 ((rd_T100 t106 (ji39)).f1)) ∧ w'.cell? ⟨(ad114.add (((ji39)).toNat * 3)).block, (ad114.add (((ji39)).toNat * 3)).off + 2, none⟩ = some (.int .u8 ((rd_T100 t106 (ji39)).f2))) (ds := []) #[false, false, false, false, false, false, false, false, false, false, false, false, false, false] (by kernel_rfl) rfl rfl ⟨(blk_cell BK128.out 0).trans rfl, (blk_cell BK128.out 1).trans rfl, (blk_cell BK128.out 2).trans rfl, hx142_0, hx142_1, hx142_2⟩ (fun hHeld => ?_); refine with_tabW sloperef3_Parse.tab23 sloperef3_Parse.bits23 (fun HT_ HW_ => ?_)
                                      generalize w94.drew = w95 at HO_5 HO_8 BK101 BK128 HB hx142_0 hx142_1 hx142_2 hHeld ⊢
                                      refine pure_ (i := 0) (N := some 86) (v := ?_) (a' := ?_) #[true, false, false, false, false, false, false, false, false, false, false, false, false, false] rfl rfl (any_of HT_.out (by kernel_rfl)) (fun _ _ _ h => h) (Or.inl ⟨by rfl, ?_⟩) ?_ ?_
                                      rotate_left
                                      · intro w'
                                        go_simp
                                        with_reducible rfl
                                      rotate_left
                                      · simp only [Act.put, List.setIfInBounds_toArray, List.set_cons_zero, List.set_cons_succ, i64_w, i32_w]
                                        rfl
                                      refine pure_ (i := 1) (N := some 87) (v := ?_) (a' := ?_) #[true, true, false, false, false, false, false, false, false, false, false, false, false, false] rfl rfl (any_of HT_.out (by kernel_rfl)) (fun _ _ _ h => h) (Or.inl ⟨by rfl, ?_⟩) ?_ ?_
                                      rotate_left
                                      · intro w'
                                        go_simp
                                        with_reducible rfl
                                      rotate_left
                                      · simp only [Act.put, List.setIfInBounds_toArray, List.set_cons_zero, List.set_cons_succ, i64_w, i32_w]
                                        rfl
                                      refine pure_ (i := 2) (N := some 88) (v := ?_) (a' := ?_) #[true, true, true, false, false, false, false, false, false, false, false, false, false, false] rfl rfl (any_of HT_.out (by kernel_rfl)) (fun _ _ _ h => h) (Or.inl ⟨by rfl, ?_⟩) ?_ ?_
                                      rotate_left
                                      · intro w'
                                        go_simp
                                        with_reducible rfl
                                      rotate_left
                                      · simp only [Act.put, List.setIfInBounds_toArray, List.set_cons_zero, List.set_cons_succ, i64_w, i32_w]
                                        rfl
                                      refine pure_ (i := 3) (N := some 89) (v := ?_) (a' := ?_) #[true, true, true, true, false, false, false, false, false, false, false, false, false, false] rfl rfl (any_of HT_.out (by kernel_rfl)) (fun _ _ _ h => h) (Or.inl ⟨by rfl, ?_⟩) ?_ ?_
                                      rotate_left
                                      · intro w'
                                        go_simp
                                        with_reducible rfl
                                      rotate_left
                                      · simp only [Act.put, List.setIfInBounds_toArray, List.set_cons_zero, List.set_cons_succ, i64_w, i32_w]
                                        rfl
                                      refine pure_ (i := 5) (N := some 91) (v := ?_) (a' := ?_) #[true, true, true, true, false, true, false, false, false, false, false, false, false, false] rfl rfl (any_of HT_.out (by kernel_rfl)) (fun _ _ _ h => h) (Or.inl ⟨by rfl, ?_⟩) ?_ ?_
                                      rotate_left
                                      · intro w'
                                        go_simp
                                        with_reducible rfl
                                      rotate_left
                                      · simp only [Act.put, List.setIfInBounds_toArray, List.set_cons_zero, List.set_cons_succ, i64_w, i32_w]
                                        rfl
                                      refine pure_ (i := 6) (N := some 92) (v := ?_) (a' := ?_) #[true, true, true, true, false, true, true, false, false, false, false, false, false, false] rfl rfl (any_of HT_.out (by kernel_rfl)) (fun _ _ _ h => h) (Or.inl ⟨by rfl, ?_⟩) ?_ ?_
                                      rotate_left
                                      · intro w'
                                        go_simp
                                        with_reducible rfl
                                      rotate_left
                                      · simp only [Act.put, List.setIfInBounds_toArray, List.set_cons_zero, List.set_cons_succ, i64_w, i32_w]
                                        rfl
                                      refine pure_ (i := 7) (N := some 93) (v := ?_) (a' := ?_) #[true, true, true, true, false, true, true, true, false, false, false, false, false, false] rfl rfl (any_of HT_.out (by kernel_rfl)) (fun _ _ _ h => h) (Or.inl ⟨by rfl, ?_⟩) ?_ ?_
                                      rotate_left
                                      · intro w'
                                        go_simp
                                        with_reducible rfl
                                      rotate_left
                                      · simp only [Act.put, List.setIfInBounds_toArray, List.set_cons_zero, List.set_cons_succ, i64_w, i32_w]
                                        rfl
                                      refine pure_ (i := 8) (N := some 94) (v := ?_) (a' := ?_) #[true, true, true, true, false, true, true, true, true, false, false, false, false, false] rfl rfl (any_of HT_.out (by kernel_rfl)) (fun _ _ _ h => h) (Or.inl ⟨by rfl, ?_⟩) ?_ ?_
                                      rotate_left
                                      · intro w'
                                        go_simp
                                        with_reducible rfl
                                      rotate_left
                                      · simp only [Act.put, List.setIfInBounds_toArray, List.set_cons_zero, List.set_cons_succ, i64_w, i32_w]
                                        rfl
                                      refine pure_ (i := 9) (N := some 95) (v := ?_) (a' := ?_) #[true, true, true, true, false, true, true, true, true, true, false, false, false, false] rfl rfl (any_of HT_.out (by kernel_rfl)) (fun _ _ _ h => h) (Or.inl ⟨by rfl, ?_⟩) ?_ ?_
                                      rotate_left
                                      · intro w'
                                        go_simp
                                        with_reducible rfl
                                      rotate_left
                                      · simp only [Act.put, List.setIfInBounds_toArray, List.set_cons_zero, List.set_cons_succ, i64_w, i32_w]
                                        rfl
                                      refine take_ (i := 4) (N := some 90) (v := ?_) (a' := ?_) #[true, true, true, true, true, true, true, true, true, true, false, false, false, false] rfl rfl (take_ofW HT_.out HW_.out (by kernel_rfl)) (fun _ _ _ h => h) (Or.inl ⟨by rfl, ?_⟩) hHeld ?_ ?_
                                      rotate_left
                                      · rintro w' ⟨s0, s1, s2, s3, s4, s5⟩
                                        go_simp
                                        with_reducible rfl
                                      rotate_left
                                      · simp only [Act.put, List.setIfInBounds_toArray, List.set_cons_zero, List.set_cons_succ, i64_w, i32_w]
                                        rfl
                                      refine take_ (i := 10) (N := some 96) (v := ?_) (a' := ?_) #[true, true, true, true, true, true, true, true, true, true, true, false, false, false] rfl rfl (take_ofW HT_.out HW_.out (by kernel_rfl)) (fun _ _ _ h => h) (Or.inl ⟨by rfl, ?_⟩) hHeld ?_ ?_
                                      rotate_left
                                      · rintro w' ⟨s0, s1, s2, s3, s4, s5⟩
                                        go_simp
                                        with_reducible rfl
                                      rotate_left
                                      · simp only [Act.put, List.setIfInBounds_toArray, List.set_cons_zero, List.set_cons_succ, i64_w, i32_w]
                                        rfl
                                      refine pure_ (i := 11) (N := some 97) (v := ?_) (a' := ?_) #[true, true, true, true, true, true, true, true, true, true, true, true, false, false] rfl rfl (any_of HT_.out (by kernel_rfl)) (fun _ _ _ h => h) (Or.inl ⟨by rfl, ?_⟩) ?_ ?_
                                      rotate_left
                                      · intro w'
                                        go_simp
                                        with_reducible rfl
                                      rotate_left
                                      · simp only [Act.put, List.setIfInBounds_toArray, List.set_cons_zero, List.set_cons_succ, i64_w, i32_w]
                                        rfl
                                      refine pure_ (i := 12) (N := some 98) (v := ?_) (a' := ?_) #[true, true, true, true, true, true, true, true, true, true, true, true, true, false] rfl rfl (any_of HT_.out (by kernel_rfl)) (fun _ _ _ h => h) (Or.inl ⟨by rfl, ?_⟩) ?_ ?_
                                      rotate_left
                                      · intro w'
                                        go_simp
                                        with_reducible rfl
                                      rotate_left
                                      · simp only [Act.put, List.setIfInBounds_toArray, List.set_cons_zero, List.set_cons_succ, i64_w, i32_w]
                                        rfl
                                      refine pure_ (i := 13) (N := some 99) (v := ?_) (a' := ?_) #[true, true, true, true, true, true, true, true, true, true, true, true, true, true] rfl rfl (any_of HT_.out (by kernel_rfl)) (fun _ _ _ h => h) (Or.inl ⟨by rfl, ?_⟩) ?_ ?_
                                      rotate_left
                                      · intro w'
                                        go_simp
                                        with_reducible rfl
                                      rotate_left
                                      · simp only [Act.put, List.setIfInBounds_toArray, List.set_cons_zero, List.set_cons_succ, i64_w, i32_w]
                                        rfl
                                      refine done_ (done_of HT_.out (by kernel_rfl)) ?_
                                      have hcz96_0 : w95.cell? ⟨gb128, 0, none⟩ = some (.int .i64 ((rd_T100 t106 x9_1).f0)) := (blk_cell BK128.out 0).trans rfl
                                      have hcz96_1 : w95.cell? ⟨gb128, 1, none⟩ = some (.int .i64 ((rd_T100 t106 x9_1).f1)) := (blk_cell BK128.out 1).trans rfl
                                      have hcz96_2 : w95.cell? ⟨gb128, 2, none⟩ = some (.int .u8 ((rd_T100 t106 x9_1).f2)) := (blk_cell BK128.out 2).trans rfl
                                      have hfz96_0 := blk_frozen BK128.out 0
                                      have hfz96_1 := blk_frozen BK128.out 1
                                      have hfz96_2 := blk_frozen BK128.out 2
                                      have p90 : 0 ≤ (((rd_T100 t106 x9_1).f0) : Int) := of_decide_eq_true (by first | (with_reducible assumption) | assumption)
                                      have q90 : (((rd_T100 t106 x9_1).f0) : Int) < ((x8_1.length : Int) : Int) := of_decide_eq_true (by first | (with_reducible assumption) | assumption)
                                      obtain ⟨go90, co90, eo90, gb90, gl90, cl90, HG90⟩ := Kd.R_form HO_8.out (by omega)
                                      (first | cases eo90 | (injection eo90 with ea_ en_ ec_; (first | subst ea_ | (injection ea_ with ea_; subst ea_)); subst ec_; clear en_))
                                      have GB90 := Aside0.mk gb90
                                      have GG90 := Aside0.mk HG90
                                      clear gb90 gl90 HG90
                                      obtain ⟨hx90_0, hf90_0⟩ := Kd.R_celln false HO_8.out (((rd_T100 t106 x9_1).f0) : Int) p90 q90
                                      replace p90 := eq_true p90
                                      replace q90 := eq_true q90
                                      obtain ⟨hy97_, hz97_⟩ := Kd.R_celln false HO_8.out (((rd_T100 t106 x9_1).f0) : Int) (of_decide_eq_true (by first | (with_reducible assumption) | assumption)) (of_decide_eq_true (by first | (with_reducible assumption) | assumption))
                                      have HP97 := Kd.R_putg HO_8.out (((rd_T100 t106 x9_1).f0) : Int) true
                                      try go_wp2_with (first | ((with_reducible refine gate_store (t := 4) (p := 106) rfl ?_); refine store_event (t := 4) (p := 106) (v := ?vo_w98) (w1 := (w95.setCell ⟨go90, (((rd_T100 t106 x9_1).f0) : Int).toNat, none⟩ (.bool true))) ?hg ?ho ?hn ?hr ?_; (case ho => rfl); (case hg => rfl); (case hn => rfl); (case hr => first | (go_simp; done) | (go_simp; rfl)); intro w98 hw; have hg : w95.grownBy w98 (some go90) := (by rw [hw]; exact HP97.2); have hp_ : Kd.R Kd.bool 4 w98 w.heap.size (fun _ => True) (.slice (some ⟨go90, 0, none⟩) x8_1.length co90) y147 := (by rw [hw, Ny147.out]; exact HP97.1); clear HP97; have n0_ := Aside0.mk (Kd.R_over' (v := (.slice (some ⟨go90, 0, none⟩) x8_1.length co90)) (by (with_reducible repeat (first | apply Kd.R_alloc | apply Kd.R_drewN | apply Kd.R_drew)); exact HO_5.out) (Kd.R_typed HO_8.out) (by decide) hg); have n1_ := Aside0.mk (hp_); have n2_ := Aside0.mk (blk_grown (g := gb101) (o := .cells #[.int .i64 x102000_1, .slice none 0 0] 26 (0, 0)) (by (with_reducible repeat (first | refine blk_drewN ?_ _ | refine blk_drew ?_ | refine blk_alloc ?_ _)); exact BK101.out) hg (Kd.R_ne HO_8.out BK101.out (by decide))); have n3_ := Aside0.mk (blk_grown (g := gb128) (o := .cells #[.int .i64 ((rd_T100 t106 x9_1).f0), .int .i64 ((rd_T100 t106 x9_1).f1), .int .u8 ((rd_T100 t106 x9_1).f2)] 100 (0, 0)) (by (with_reducible repeat (first | refine blk_drewN ?_ _ | refine blk_drew ?_ | refine blk_alloc ?_ _)); exact BK128.out) hg (Kd.R_ne HO_8.out BK128.out (by decide))); have n4_ := Aside0.mk ((by rw [hw]; exact below_set (HB.out) GB90.out : Below w.heap.size w w98)); clear HO_5; clear HO_8; clear BK101; clear BK128; clear HB; have HO_5 := n0_; have HO_8 := n1_; have BK101 := n2_; have BK128 := n3_; have HB := n4_; clear n0_ n1_ n2_ n3_ n4_; clear hg hw hp_))
                                      go_roundg k1
                                      case measure => have := HK1.out; omega
                                      case rel => exact ⟨(y147), (wrap64 (x9_1 + 1)), (x102000_1), (by first | rfl | (simp; done) | (simp [*]; done)), H', ⟨by have := HK1.out; omega⟩, ⟨by (with_reducible repeat (first | apply Kd.R_alloc | apply Kd.R_drewN | apply Kd.R_drew)); exact Kd.R_mono HO_5.out (fun _ hk => trivial)⟩, ⟨by (with_reducible repeat (first | apply Kd.R_alloc | apply Kd.R_drewN | apply Kd.R_drew)); exact HO_8.out⟩, ⟨by (with_reducible repeat (first | refine blk_drewN ?_ _ | refine blk_drew ?_ | refine blk_alloc ?_ _)); exact BK101.out⟩, ⟨by repeat (first | (with_reducible first | exact HB.out | apply below_alloc | apply pw_below_drewN | apply below_drew1 | refine below_set ?_ GE101.out | refine below_set ?_ GE128.out) | exact HB.out)⟩⟩
                                    · rw [if_neg c89] at H
                                      exact absurd H (by simp)
                                  · rw [if_neg c88] at H
                                    exact absurd H (by simp)
                              · rw [if_neg c75] at H
                                have c75b0 : decide (1 < x9_1) = false := decide_eq_false c75
                                clear c75
                                by_cases c99 : 0 ≤ ((rd_T100 t106 x9_1).f0)
                                · rw [if_pos c99] at H
                                  have c99b0 : decide (0 ≤ ((rd_T100 t106 x9_1).f0)) = true := decide_eq_true c99
                                  clear c99
                                  by_cases c100 : ((rd_T100 t106 x9_1).f0) < (x8_1.length : Int)
                                  · rw [if_pos c100] at H
                                    have c100b0 : decide (((rd_T100 t106 x9_1).f0) < (x8_1.length : Int)) = true := decide_eq_true c100
                                    clear c100
                                    obtain ⟨y148, hy148⟩ : ∃ y_ : List Bool, y_ = (x8_1.set (((rd_T100 t106 x9_1).f0) : Int).toNat true) := ⟨_, rfl⟩
                                    replace H : (sloperef3_Parse.l0 k1 t106 ((rd_T100 t106 0).f0) y148 (wrap64 (x9_1 + 1))) = some (r1, r2, r3, r4) := by first | (rw [hy148]; with_reducible exact H) | (have H2_ := (Option.bind_some _ _).symm.trans H; rw [hy148]; with_reducible exact H2_) | (have H2_ := (Option.bind_some _ _).symm.trans H; with_reducible exact H2_) | with_reducible exact H | (rw [hy148]; exact H) | exact H
                                    have Ny148 := Aside0.mk hy148
                                    clear hy148
                                    have H' := Aside0.mk H
                                    clear H
                                    have p127 : 0 ≤ (x9_1 : Int) := of_decide_eq_true (by first | (with_reducible assumption) | assumption)
                                    have q127 : x9_1 < (t106.length : Int) := of_decide_eq_true (by first | (with_reducible assumption) | assumption)
                                    obtain ⟨ad127, e127, hx127_0, hx127_1, hx127_2⟩ := at_T100 (Kd.R_reads' HO_5.out).2.2 x9_1 p127 q127
                                    obtain rfl : ad114 = ad127 := (by injection e127)
                                    replace p127 := eq_true p127
                                    replace q127 := eq_true q127
                                    try go_wp2_with (first | ((with_reducible refine gate_dst (N := 10) rfl ?_); refine box_event ?hg (N := 10) ?hd (cs := #[.int .i64 0, .int .i64 0, .int .u8 0]) (t := 100) ?hr ?_; (case hd => rfl); (case hg => rfl); (case hr => first | (go_simp; done) | (go_simp; rfl)); intro gb128 hg w102 hbox hb; have n0_ := Aside0.mk (Kd.R_below (Kd.R_elderB (by (with_reducible repeat (first | apply Kd.R_alloc | apply Kd.R_drewN | apply Kd.R_drew)); exact HO_5.out) gb128 (Nat.le_of_eq hg.symm)) hb); have n1_ := Aside0.mk (Kd.R_below (by (with_reducible repeat (first | apply Kd.R_alloc | apply Kd.R_drewN | apply Kd.R_drew)); exact HO_8.out) hb); have n2_ := Aside0.mk (blk_below (g := gb101) (o := .cells #[.int .i64 x102000_1, .slice none 0 0] 26 (0, 0)) (by (with_reducible repeat (first | refine blk_drewN ?_ _ | refine blk_drew ?_ | refine blk_alloc ?_ _)); exact BK101.out) hb); have n3_ := Aside0.mk (below_step (by repeat (first | (with_reducible first | exact HB.out | apply below_alloc | apply pw_below_drewN | apply below_drew1 | refine below_set ?_ GE101.out) | exact HB.out)) hb); have n4_ := Aside0.mk (hbox); have n5_ := Aside0.mk ((by rw [hg]; exact (below_size (by repeat (first | (with_reducible first | exact HB.out | apply below_alloc | apply pw_below_drewN | apply below_drew1 | refine below_set ?_ GE101.out) | exact HB.out))) : w.heap.size ≤ gb128)); have n6_ := Aside0.mk ((by rw [hg]; exact (below_size (by repeat (first | (with_reducible first | exact HB.out | apply below_alloc | apply pw_below_drewN | apply below_drew1 | refine below_set ?_ GE101.out) | exact HB.out))) : w.heap.size ≤ gb128)); have n7_ := Aside0.mk ((by rw [hg]; exact Nat.ne_of_lt (blk_lt (g := gb101) (o := .cells #[.int .i64 x102000_1, .slice none 0 0] 26 (0, 0)) (by (with_reducible repeat (first | refine blk_drewN ?_ _ | refine blk_drew ?_ | refine blk_alloc ?_ _)); exact BK101.out)) : gb101 ≠ gb128)); have n8_ := Aside0.mk ((by rw [hg]; exact Nat.ne_of_gt (blk_lt (g := gb101) (o := .cells #[.int .i64 x102000_1, .slice none 0 0] 26 (0, 0)) (by (with_reducible repeat (first | refine blk_drewN ?_ _ | refine blk_drew ?_ | refine blk_alloc ?_ _)); exact BK101.out)) : gb128 ≠ gb101)); clear HO_5; clear HO_8; clear BK101; clear HB; have HO_5 := n0_; have HO_8 := n1_; have BK101 := n2_; have HB := n3_; have BK128 := n4_; have GW128 := n5_; have GE128 := n6_; have NB101_128 := n7_; have NB128_101 := n8_; clear n0_ n1_ n2_ n3_ n4_ n5_ n6_ n7_ n8_; clear hb hbox hg; have hnb103 := NB128_101.out; have hnc103 := NB101_128.out; have hcz104_0 : w102.cell? ⟨gb128, 0, none⟩ = some (.int .i64 0) := (blk_cell BK128.out 0).trans rfl; have hcz104_1 : w102.cell? ⟨gb128, 1, none⟩ = some (.int .i64 0) := (blk_cell BK128.out 1).trans rfl; have hcz104_2 : w102.cell? ⟨gb128, 2, none⟩ = some (.int .u8 0) := (blk_cell BK128.out 2).trans rfl; have hfz104_0 := blk_frozen BK128.out 0; have hfz104_1 := blk_frozen BK128.out 1; have hfz104_2 := blk_frozen BK128.out 2; have p133 : 0 ≤ ((ji39) : Int) := of_decide_eq_true (by first | (with_reducible assumption) | assumption); have q133 : (ji39) < (t106.length : Int) := of_decide_eq_true (by first | (with_reducible assumption) | assumption); obtain ⟨ad133, e133, hx133_0, hx133_1, hx133_2⟩ := at_T100 (Kd.R_reads' HO_5.out).2.2 (ji39) p133 q133; obtain rfl : ad114 = ad133 := (by injection e133); have hn133_0 : ad114.block ≠ gb128 := Kd.own_blk ((fun e_ => by have h_ := HO_5.out.1 _ e_.symm; first | exact h_ rfl | exact h_.2 rfl)); have hn133_1 : ad114.block ≠ gb128 := Kd.own_blk ((fun e_ => by have h_ := HO_5.out.1 _ e_.symm; first | exact h_ rfl | exact h_.2 rfl)); have hn133_2 : ad114.block ≠ gb128 := Kd.own_blk ((fun e_ => by have h_ := HO_5.out.1 _ e_.symm; first | exact h_ rfl | exact h_.2 rfl)); replace hx133_0 := (cell_far (p := ⟨gb128, 0, none⟩) (by first | (rw [add_block]; exact hn133_0) | (show (Addr.add _ _).block ≠ _; rw [add_block]; exact hn133_0) | exact hn133_0) (.int .i64 ((rd_T100 t106 x9_1).f0))).trans hx133_0; replace hx133_1 := (cell_far (p := ⟨gb128, 0, none⟩) (by first | (rw [add_block]; exact hn133_0) | (show (Addr.add _ _).block ≠ _; rw [add_block]; exact hn133_0) | exact hn133_0) (.int .i64 ((rd_T100 t106 x9_1).f0))).trans hx133_1; replace hx133_2 := (cell_far (p := ⟨gb128, 0, none⟩) (by first | (rw [add_block]; exact hn133_0) | (show (Addr.add _ _).block ≠ _; rw [add_block]; exact hn133_0) | exact hn133_0) (.int .i64 ((rd_T100 t106 x9_1).f0))).trans hx133_2; replace hx133_0 := (cell_far (p := ⟨gb128, 1, none⟩) (by first | (rw [add_block]; exact hn133_1) | (show (Addr.add _ _).block ≠ _; rw [add_block]; exact hn133_1) | exact hn133_1) (.int .i64 ((rd_T100 t106 x9_1).f1))).trans hx133_0; replace hx133_1 := (cell_far (p := ⟨gb128, 1, none⟩) (by first | (rw [add_block]; exact hn133_1) | (show (Addr.add _ _).block ≠ _; rw [add_block]; exact hn133_1) | exact hn133_1) (.int .i64 ((rd_T100 t106 x9_1).f1))).trans hx133_1; replace hx133_2 := (cell_far (p := ⟨gb128, 1, none⟩) (by first | (rw [add_block]; exact hn133_1) | (show (Addr.add _ _).block ≠ _; rw [add_block]; exact hn133_1) | exact hn133_1) (.int .i64 ((rd_T100 t106 x9_1).f1))).trans hx133_2; replace hx133_0 := (cell_far (p := ⟨gb128, 2, none⟩) (by first | (rw [add_block]; exact hn133_2) | (show (Addr.add _ _).block ≠ _; rw [add_block]; exact hn133_2) | exact hn133_2) (.int .u8 ((rd_T100 t106 x9_1).f2))).trans hx133_0; replace hx133_1 := (cell_far (p := ⟨gb128, 2, none⟩) (by first | (rw [add_block]; exact hn133_2) | (show (Addr.add _ _).block ≠ _; rw [add_block]; exact hn133_2) | exact hn133_2) (.int .u8 ((rd_T100 t106 x9_1).f2))).trans hx133_1; replace hx133_2 := (cell_far (p := ⟨gb128, 2, none⟩) (by first | (rw [add_block]; exact hn133_2) | (show (Addr.add _ _).block ≠ _; rw [add_block]; exact hn133_2) | exact hn133_2) (.int .u8 ((rd_T100 t106 x9_1).f2))).trans hx133_2; clear hn133_0; clear hn133_1; clear hn133_2; replace p133 := eq_true p133; replace q133 := eq_true q133))
                                    have n0_ : Aside0 (Kd.R k100 100 (((w102.setCell ⟨gb128, 0, none⟩ (.int .i64 ((rd_T100 t106 x9_1).f0))).setCell ⟨gb128, 1, none⟩ (.int .i64 ((rd_T100 t106 x9_1).f1))).setCell ⟨gb128, 2, none⟩ (.int .u8 ((rd_T100 t106 x9_1).f2))) w.heap.size (fun k_ => k_ ≠ gb128) (.slice (some ad114) t106.length co23) t106) := ⟨by (with_reducible repeat (first | apply Kd.R_alloc | apply Kd.R_drewN | apply Kd.R_drew)); exact Kd.R_mono (Kd.R_far (p := ⟨gb128, 2, none⟩) (Kd.R_far (p := ⟨gb128, 1, none⟩) (Kd.R_far (p := ⟨gb128, 0, none⟩) (Kd.R_mono HO_5.out (fun k_ hk => (⟨hk, hk.2⟩ : _ ∧ k_ ≠ gb128))) (fun _ hk => hk.2) (.int .i64 ((rd_T100 t106 x9_1).f0))) (fun _ hk => hk.2) (.int .i64 ((rd_T100 t106 x9_1).f1))) (fun _ hk => hk.2) (.int .u8 ((rd_T100 t106 x9_1).f2))) (fun _ hk => hk.1.2)⟩
                                    have n1_ : Aside0 (Kd.R Kd.bool 4 (((w102.setCell ⟨gb128, 0, none⟩ (.int .i64 ((rd_T100 t106 x9_1).f0))).setCell ⟨gb128, 1, none⟩ (.int .i64 ((rd_T100 t106 x9_1).f1))).setCell ⟨gb128, 2, none⟩ (.int .u8 ((rd_T100 t106 x9_1).f2))) w.heap.size (fun _ => True) v121 x8_1) := ⟨by (with_reducible repeat (first | apply Kd.R_alloc | apply Kd.R_drewN | apply Kd.R_drew)); exact Kd.R_mono (Kd.R_far (p := ⟨gb128, 2, none⟩) (Kd.R_far (p := ⟨gb128, 1, none⟩) (Kd.R_far (p := ⟨gb128, 0, none⟩) (Kd.R_types HO_8.out BK128.out (by decide)) (fun _ hk => hk.2) (.int .i64 ((rd_T100 t106 x9_1).f0))) (fun _ hk => hk.2) (.int .i64 ((rd_T100 t106 x9_1).f1))) (fun _ hk => hk.2) (.int .u8 ((rd_T100 t106 x9_1).f2))) (fun _ hk => trivial)⟩
                                    have n2_ : Aside0 ((((w102.setCell ⟨gb128, 0, none⟩ (.int .i64 ((rd_T100 t106 x9_1).f0))).setCell ⟨gb128, 1, none⟩ (.int .i64 ((rd_T100 t106 x9_1).f1))).setCell ⟨gb128, 2, none⟩ (.int .u8 ((rd_T100 t106 x9_1).f2))).heap[gb101]? = some (.cells #[.int .i64 x102000_1, .slice none 0 0] 26 (0, 0))) := ⟨by (with_reducible repeat (first | refine blk_drewN ?_ _ | refine blk_drew ?_ | refine blk_alloc ?_ _)); refine blk_far ?_ NB101_128.out _; (with_reducible repeat (first | refine blk_drewN ?_ _ | refine blk_drew ?_ | refine blk_alloc ?_ _)); refine blk_far ?_ NB101_128.out _; (with_reducible repeat (first | refine blk_drewN ?_ _ | refine blk_drew ?_ | refine blk_alloc ?_ _)); refine blk_far ?_ NB101_128.out _; (with_reducible repeat (first | refine blk_drewN ?_ _ | refine blk_drew ?_ | refine blk_alloc ?_ _)); exact BK101.out⟩
                                    have n3_ : Aside0 ((((w102.setCell ⟨gb128, 0, none⟩ (.int .i64 ((rd_T100 t106 x9_1).f0))).setCell ⟨gb128, 1, none⟩ (.int .i64 ((rd_T100 t106 x9_1).f1))).setCell ⟨gb128, 2, none⟩ (.int .u8 ((rd_T100 t106 x9_1).f2))).heap[gb128]? = some (.cells #[.int .i64 ((rd_T100 t106 x9_1).f0), .int .i64 ((rd_T100 t106 x9_1).f1), .int .u8 ((rd_T100 t106 x9_1).f2)] 100 (0, 0))) := ⟨by (with_reducible repeat (first | refine blk_drewN ?_ _ | refine blk_drew ?_ | refine blk_alloc ?_ _)); refine blk_put (cs := #[.int .i64 ((rd_T100 t106 x9_1).f0), .int .i64 ((rd_T100 t106 x9_1).f1), .int .u8 0]) ?_ 2 _ rfl; (with_reducible repeat (first | refine blk_drewN ?_ _ | refine blk_drew ?_ | refine blk_alloc ?_ _)); refine blk_put (cs := #[.int .i64 ((rd_T100 t106 x9_1).f0), .int .i64 0, .int .u8 0]) ?_ 1 _ rfl; (with_reducible repeat (first | refine blk_drewN ?_ _ | refine blk_drew ?_ | refine blk_alloc ?_ _)); refine blk_put (cs := #[.int .i64 0, .int .i64 0, .int .u8 0]) ?_ 0 _ rfl; (with_reducible repeat (first | refine blk_drewN ?_ _ | refine blk_drew ?_ | refine blk_alloc ?_ _)); exact BK128.out⟩
                                    have n4_ : Aside0 (Below w.heap.size w (((w102.setCell ⟨gb128, 0, none⟩ (.int .i64 ((rd_T100 t106 x9_1).f0))).setCell ⟨gb128, 1, none⟩ (.int .i64 ((rd_T100 t106 x9_1).f1))).setCell ⟨gb128, 2, none⟩ (.int .u8 ((rd_T100 t106 x9_1).f2)))) := ⟨by repeat (first | (with_reducible first | exact HB.out | apply below_alloc | apply pw_below_drewN | apply below_drew1 | refine below_set ?_ GE101.out | refine below_set ?_ GE128.out) | exact HB.out)⟩
                                    (try clear HO_5)
                                    (try clear HO_8)
                                    (try clear BK101)
                                    (try clear BK128)
                                    (try clear HB)
                                    generalize (((w102.setCell ⟨gb128, 0, none⟩ (.int .i64 ((rd_T100 t106 x9_1).f0))).setCell ⟨gb128, 1, none⟩ (.int .i64 ((rd_T100 t106 x9_1).f1))).setCell ⟨gb128, 2, none⟩ (.int .u8 ((rd_T100 t106 x9_1).f2))) = w105 at n0_ n1_ n2_ n3_ n4_ ⊢
                                    have HO_5 := n0_
                                    have HO_8 := n1_
                                    have BK101 := n2_
                                    have BK128 := n3_
                                    have HB := n4_
                                    clear n0_ n1_ n2_ n3_ n4_
                                    have n0_ := Aside0.mk (Kd.R_drew HO_5.out)
                                    have n1_ := Aside0.mk (Kd.R_drew HO_8.out)
                                    have n2_ := Aside0.mk (blk_drew BK101.out)
                                    have n3_ := Aside0.mk (blk_drew BK128.out)
                                    have n4_ := Aside0.mk (below_drew1 HB.out)
                                    clear HO_5
                                    clear HO_8
                                    clear BK101
                                    clear BK128
                                    clear HB
                                    have HO_5 := n0_
                                    have HO_8 := n1_
                                    have BK101 := n2_
                                    have BK128 := n3_
                                    have HB := n4_
                                    clear n0_ n1_ n2_ n3_ n4_
                                    refine start_ (n := 14) (S := fun w' => True) (ds := []) #[false, false, false, false, false, false, false, false, false, false, false, false, false, false] (by kernel_rfl) rfl rfl trivial (fun hHeld => ?_); refine with_tabW sloperef3_Parse.tab23 sloperef3_Parse.bits23 (fun HT_ HW_ => ?_)
                                    generalize w105.drew = w106 at HO_5 HO_8 BK101 BK128 HB hHeld ⊢
                                    refine pure_ (i := 0) (N := some 86) (v := ?_) (a' := ?_) #[true, false, false, false, false, false, false, false, false, false, false, false, false, false] rfl rfl (any_of HT_.out (by kernel_rfl)) (fun _ _ _ h => h) (Or.inl ⟨by rfl, ?_⟩) ?_ ?_
                                    rotate_left
                                    · intro w'
                                      go_simp
                                      with_reducible rfl
                                    rotate_left
                                    · simp only [Act.put, List.setIfInBounds_toArray, List.set_cons_zero, List.set_cons_succ, i64_w, i32_w]
                                      rfl
                                    refine pure_ (i := 1) (N := some 87) (v := ?_) (a' := ?_) #[true, true, false, false, false, false, false, false, false, false, false, false, false, false] rfl rfl (any_of HT_.out (by kernel_rfl)) (fun _ _ _ h => h) (Or.inl ⟨by rfl, ?_⟩) ?_ ?_
                                    rotate_left
                                    · intro w'
                                      go_simp
                                      with_reducible rfl
                                    rotate_left
                                    · simp only [Act.put, List.setIfInBounds_toArray, List.set_cons_zero, List.set_cons_succ, i64_w, i32_w]
                                      rfl
                                    refine pure_ (i := 2) (N := some 88) (v := ?_) (a' := ?_) #[true, true, true, false, false, false, false, false, false, false, false, false, false, false] rfl rfl (any_of HT_.out (by kernel_rfl)) (fun _ _ _ h => h) (Or.inl ⟨by rfl, ?_⟩) ?_ ?_
                                    rotate_left
                                    · intro w'
                                      go_simp
                                      with_reducible rfl
                                    rotate_left
                                    · simp only [Act.put, List.setIfInBounds_toArray, List.set_cons_zero, List.set_cons_succ, i64_w, i32_w]
                                      rfl
                                    refine pure_ (i := 3) (N := some 89) (v := undef) (a' := ?_) #[true, true, true, true, false, false, false, false, false, false, false, false, false, false] rfl rfl (any_of HT_.out (by kernel_rfl)) (fun _ _ _ h => h) (Or.inr ⟨by rfl, rfl⟩) ?_ ?_
                                    rotate_left
                                    · simp only [Act.put, List.setIfInBounds_toArray, List.set_cons_zero, List.set_cons_succ, i64_w, i32_w]
                                      rfl
                                    refine pure_ (i := 4) (N := some 90) (v := undef) (a' := ?_) #[true, true, true, true, true, false, false, false, false, false, false, false, false, false] rfl rfl (any_of HT_.out (by kernel_rfl)) (fun _ _ _ h => h) (Or.inr ⟨by rfl, rfl⟩) ?_ ?_
                                    rotate_left
                                    · simp only [Act.put, List.setIfInBounds_toArray, List.set_cons_zero, List.set_cons_succ, i64_w, i32_w]
                                      rfl
                                    refine pure_ (i := 5) (N := some 91) (v := undef) (a' := ?_) #[true, true, true, true, true, true, false, false, false, false, false, false, false, false] rfl rfl (any_of HT_.out (by kernel_rfl)) (fun _ _ _ h => h) (Or.inr ⟨by rfl, rfl⟩) ?_ ?_
                                    rotate_left
                                    · simp only [Act.put, List.setIfInBounds_toArray, List.set_cons_zero, List.set_cons_succ, i64_w, i32_w]
                                      rfl
                                    refine pure_ (i := 6) (N := some 92) (v := undef) (a' := ?_) #[true, true, true, true, true, true, true, false, false, false, false, false, false, false] rfl rfl (any_of HT_.out (by kernel_rfl)) (fun _ _ _ h => h) (Or.inr ⟨by rfl, rfl⟩) ?_ ?_
                                    rotate_left
                                    · simp only [Act.put, List.setIfInBounds_toArray, List.set_cons_zero, List.set_cons_succ, i64_w, i32_w]
                                      rfl
                                    refine pure_ (i := 7) (N := some 93) (v := undef) (a' := ?_) #[true, true, true, true, true, true, true, true, false, false, false, false, false, false] rfl rfl (any_of HT_.out (by kernel_rfl)) (fun _ _ _ h => h) (Or.inr ⟨by rfl, rfl⟩) ?_ ?_
                                    rotate_left
                                    · simp only [Act.put, List.setIfInBounds_toArray, List.set_cons_zero, List.set_cons_succ, i64_w, i32_w]
                                      rfl
                                    refine pure_ (i := 8) (N := some 94) (v := undef) (a' := ?_) #[true, true, true, true, true, true, true, true, true, false, false, false, false, false] rfl rfl (any_of HT_.out (by kernel_rfl)) (fun _ _ _ h => h) (Or.inr ⟨by rfl, rfl⟩) ?_ ?_
                                    rotate_left
                                    · simp only [Act.put, List.setIfInBounds_toArray, List.set_cons_zero, List.set_cons_succ, i64_w, i32_w]
                                      rfl
                                    refine pure_ (i := 9) (N := some 95) (v := undef) (a' := ?_) #[true, true, true, true, true, true, true, true, true, true, false, false, false, false] rfl rfl (any_of HT_.out (by kernel_rfl)) (fun _ _ _ h => h) (Or.inr ⟨by rfl, rfl⟩) ?_ ?_
                                    rotate_left
                                    · simp only [Act.put, List.setIfInBounds_toArray, List.set_cons_zero, List.set_cons_succ, i64_w, i32_w]
                                      rfl
                                    refine pure_ (i := 10) (N := some 96) (v := undef) (a' := ?_) #[true, true, true, true, true, true, true, true, true, true, true, false, false, false] rfl rfl (any_of HT_.out (by kernel_rfl)) (fun _ _ _ h => h) (Or.inr ⟨by rfl, rfl⟩) ?_ ?_
                                    rotate_left
                                    · simp only [Act.put, List.setIfInBounds_toArray, List.set_cons_zero, List.set_cons_succ, i64_w, i32_w]
                                      rfl
                                    refine pure_ (i := 11) (N := some 97) (v := undef) (a' := ?_) #[true, true, true, true, true, true, true, true, true, true, true, true, false, false] rfl rfl (any_of HT_.out (by kernel_rfl)) (fun _ _ _ h => h) (Or.inr ⟨by rfl, rfl⟩) ?_ ?_
                                    rotate_left
                                    · simp only [Act.put, List.setIfInBounds_toArray, List.set_cons_zero, List.set_cons_succ, i64_w, i32_w]
                                      rfl
                                    refine pure_ (i := 12) (N := some 98) (v := undef) (a' := ?_) #[true, true, true, true, true, true, true, true, true, true, true, true, true, false] rfl rfl (any_of HT_.out (by kernel_rfl)) (fun _ _ _ h => h) (Or.inr ⟨by rfl, rfl⟩) ?_ ?_
                                    rotate_left
                                    · simp only [Act.put, List.setIfInBounds_toArray, List.set_cons_zero, List.set_cons_succ, i64_w, i32_w]
                                      rfl
                                    refine pure_ (i := 13) (N := some 99) (v := ?_) (a' := ?_) #[true, true, true, true, true, true, true, true, true, true, true, true, true, true] rfl rfl (any_of HT_.out (by kernel_rfl)) (fun _ _ _ h => h) (Or.inl ⟨by rfl, ?_⟩) ?_ ?_
                                    rotate_left
                                    · intro w'
                                      go_simp
                                      with_reducible rfl
                                    rotate_left
                                    · simp only [Act.put, List.setIfInBounds_toArray, List.set_cons_zero, List.set_cons_succ, i64_w, i32_w]
                                      rfl
                                    refine done_ (done_of HT_.out (by kernel_rfl)) ?_
                                    have hcz107_0 : w106.cell? ⟨gb128, 0, none⟩ = some (.int .i64 ((rd_T100 t106 x9_1).f0)) := (blk_cell BK128.out 0).trans rfl
                                    have hcz107_1 : w106.cell? ⟨gb128, 1, none⟩ = some (.int .i64 ((rd_T100 t106 x9_1).f1)) := (blk_cell BK128.out 1).trans rfl
                                    have hcz107_2 : w106.cell? ⟨gb128, 2, none⟩ = some (.int .u8 ((rd_T100 t106 x9_1).f2)) := (blk_cell BK128.out 2).trans rfl
                                    have hfz107_0 := blk_frozen BK128.out 0
                                    have hfz107_1 := blk_frozen BK128.out 1
                                    have hfz107_2 := blk_frozen BK128.out 2
                                    have p101 : 0 ≤ (((rd_T100 t106 x9_1).f0) : Int) := of_decide_eq_true (by first | (with_reducible assumption) | assumption)
                                    have q101 : (((rd_T100 t106 x9_1).f0) : Int) < ((x8_1.length : Int) : Int) := of_decide_eq_true (by first | (with_reducible assumption) | assumption)
                                    obtain ⟨go101, co101, eo101, gb101, gl101, cl101, HG101⟩ := Kd.R_form HO_8.out (by omega)
                                    (first | cases eo101 | (injection eo101 with ea_ en_ ec_; (first | subst ea_ | (injection ea_ with ea_; subst ea_)); subst ec_; clear en_))
                                    have GB101 := Aside0.mk gb101
                                    have GG101 := Aside0.mk HG101
                                    clear gb101 gl101 HG101
                                    obtain ⟨hx101_0, hf101_0⟩ := Kd.R_celln false HO_8.out (((rd_T100 t106 x9_1).f0) : Int) p101 q101
                                    replace p101 := eq_true p101
                                    replace q101 := eq_true q101
                                    obtain ⟨hy108_, hz108_⟩ := Kd.R_celln false HO_8.out (((rd_T100 t106 x9_1).f0) : Int) (of_decide_eq_true (by first | (with_reducible assumption) | assumption)) (of_decide_eq_true (by first | (with_reducible assumption) | assumption))
                                    have HP108 := Kd.R_putg HO_8.out (((rd_T100 t106 x9_1).f0) : Int) true
                                    try go_wp2_with (first | ((with_reducible refine gate_store (t := 4) (p := 106) rfl ?_); refine store_event (t := 4) (p := 106) (v := ?vo_w109) (w1 := (w106.setCell ⟨go101, (((rd_T100 t106 x9_1).f0) : Int).toNat, none⟩ (.bool true))) ?hg ?ho ?hn ?hr ?_; (case ho => rfl); (case hg => rfl); (case hn => rfl); (case hr => first | (go_simp; done) | (go_simp; rfl)); intro w109 hw; have hg : w106.grownBy w109 (some go101) := (by rw [hw]; exact HP108.2); have hp_ : Kd.R Kd.bool 4 w109 w.heap.size (fun _ => True) (.slice (some ⟨go101, 0, none⟩) x8_1.length co101) y148 := (by rw [hw, Ny148.out]; exact HP108.1); clear HP108; have n0_ := Aside0.mk (Kd.R_over' (v := (.slice (some ⟨go101, 0, none⟩) x8_1.length co101)) (by (with_reducible repeat (first | apply Kd.R_alloc | apply Kd.R_drewN | apply Kd.R_drew)); exact HO_5.out) (Kd.R_typed HO_8.out) (by decide) hg); have n1_ := Aside0.mk (hp_); have n2_ := Aside0.mk (blk_grown (g := gb101) (o := .cells #[.int .i64 x102000_1, .slice none 0 0] 26 (0, 0)) (by (with_reducible repeat (first | refine blk_drewN ?_ _ | refine blk_drew ?_ | refine blk_alloc ?_ _)); exact BK101.out) hg (Kd.R_ne HO_8.out BK101.out (by decide))); have n3_ := Aside0.mk (blk_grown (g := gb128) (o := .cells #[.int .i64 ((rd_T100 t106 x9_1).f0), .int .i64 ((rd_T100 t106 x9_1).f1), .int .u8 ((rd_T100 t106 x9_1).f2)] 100 (0, 0)) (by (with_reducible repeat (first | refine blk_drewN ?_ _ | refine blk_drew ?_ | refine blk_alloc ?_ _)); exact BK128.out) hg (Kd.R_ne HO_8.out BK128.out (by decide))); have n4_ := Aside0.mk ((by rw [hw]; exact below_set (HB.out) GB101.out : Below w.heap.size w w109)); clear HO_5; clear HO_8; clear BK101; clear BK128; clear HB; have HO_5 := n0_; have HO_8 := n1_; have BK101 := n2_; have BK128 := n3_; have HB := n4_; clear n0_ n1_ n2_ n3_ n4_; clear hg hw hp_))
                                    go_roundg k1
                                    case measure => have := HK1.out; omega
                                    case rel => exact ⟨(y148), (wrap64 (x9_1 + 1)), (x102000_1), (by first | rfl | (simp; done) | (simp [*]; done)), H', ⟨by have := HK1.out; omega⟩, ⟨by (with_reducible repeat (first | apply Kd.R_alloc | apply Kd.R_drewN | apply Kd.R_drew)); exact Kd.R_mono HO_5.out (fun _ hk => trivial)⟩, ⟨by (with_reducible repeat (first | apply Kd.R_alloc | apply Kd.R_drewN | apply Kd.R_drew)); exact HO_8.out⟩, ⟨by (with_reducible repeat (first | refine blk_drewN ?_ _ | refine blk_drew ?_ | refine blk_alloc ?_ _)); exact BK101.out⟩, ⟨by repeat (first | (with_reducible first | exact HB.out | apply below_alloc | apply pw_below_drewN | apply below_drew1 | refine below_set ?_ GE101.out | refine below_set ?_ GE128.out) | exact HB.out)⟩⟩
                                  · rw [if_neg c100] at H
                                    exact absurd H (by simp)
                                · rw [if_neg c99] at H
                                  exact absurd H (by simp)
                          · rw [if_neg c41] at H
                            exact absurd H (by simp)
                        · rw [if_neg c40] at H
                          exact absurd H (by simp)
                    · rw [if_neg c27] at H
                      exact absurd H (by simp)
                  · rw [if_neg c26] at H
                    have c26b0 : decide (x9_1 < (t106.length : Int)) = false := decide_eq_false c26
                    clear c26
                    replace H := Option.bind_eq_some_iff.mp H
                    obtain ⟨⟨t123, t124⟩, A1100, H⟩ := H
                    replace H : (some (t123, t124, 0, 0)) = some (r1, r2, r3, r4) := H
                    have A110 := Aside0.mk A1100
                    clear A1100
                    simp only [Option.some.injEq, Prod.mk.injEq] at H
                    obtain ⟨rfl, rfl, rfl, rfl⟩ := H
                    obtain ⟨Ao111, co111, eo111⟩ := Kd.R_slice HO_8.out
                    subst eo111
                    go_wp2_with (first | ((with_reducible refine gate_callee (f := 61) rfl ?_); refine goesL_ (some 108) rfl rfl Try.func61 (by kernel_rfl) rfl #[.slice Ao111 x8_1.length co111] rfl (by (try simp only [List.map_toArray, List.map_cons, List.map_nil]); first | done | rfl | (simp only [List.length_drop, List.length_take]; rfl)) ?_; (with_reducible refine (sloperef3_Of.calls k1 _ _ x8_1 t123 t124 _ ?side1 ?side2 A110.out).mono ?_); (case side1 => repeat (first | exact (Kd.R_reads' HO_8.out).2.2 | (with_reducible refine Kd.C_alloc ?_ _) | (with_reducible refine Kd.C_drewN ?_ _) | (with_reducible refine Kd.C_drew ?_))); (case side2 => exact (Kd.R_reads' HO_8.out).2.1); rintro e w112 ⟨v125, rfl, ho0, hb⟩; refine ⟨_, rfl, ?_⟩; have n0_ := Aside0.mk (Kd.R_below (by (with_reducible repeat (first | apply Kd.R_alloc | apply Kd.R_drewN | apply Kd.R_drew)); exact HO_5.out) hb); have n1_ := Aside0.mk (Kd.R_below (by (with_reducible repeat (first | apply Kd.R_alloc | apply Kd.R_drewN | apply Kd.R_drew)); exact HO_8.out) hb); have n2_ := Aside0.mk (Kd.R_lower ho0 (below_size (by repeat (first | (with_reducible first | exact HB.out | apply below_alloc | apply pw_below_drewN | apply below_drew1 | refine below_set ?_ GE101.out) | exact HB.out)))); have n3_ := Aside0.mk (blk_below (g := gb101) (o := .cells #[.int .i64 x102000_1, .slice none 0 0] 26 (0, 0)) (by (with_reducible repeat (first | refine blk_drewN ?_ _ | refine blk_drew ?_ | refine blk_alloc ?_ _)); exact BK101.out) hb); have n4_ := Aside0.mk (below_step (by repeat (first | (with_reducible first | exact HB.out | apply below_alloc | apply pw_below_drewN | apply below_drew1 | refine below_set ?_ GE101.out) | exact HB.out)) hb); clear HO_5; clear HO_8; clear BK101; clear HB; have HO_5 := n0_; have HO_8 := n1_; have HO126 := n2_; have BK101 := n3_; have HB := n4_; clear n0_ n1_ n2_ n3_ n4_; (try clear hb); (try clear hb2); (try clear hk); (try clear hi); (try clear ho0); have hcz113_0 : w112.cell? ⟨gb101, 0, none⟩ = some (.int .i64 x102000_1) := (blk_cell BK101.out 0).trans rfl; have hcz113_1 : w112.cell? ⟨gb101, 1, none⟩ = some (.slice none 0 0) := (blk_cell BK101.out 1).trans rfl; have hfz113_0 := blk_frozen BK101.out 0; have hfz113_1 := blk_frozen BK101.out 1; obtain ⟨Ao114, co114, eo114⟩ := Kd.R_slice HO126.out; subst eo114))
                    refine bodyPost_ret (results_ctt rfl _ _ gb101 26 #[.int .i64 t123, .slice Ao114 t124.length co114] (0, 0) _ rfl (by (with_reducible repeat (first | refine blk_drewN ?_ _ | refine blk_drew ?_ | refine blk_alloc ?_ _)); refine blk_put (cs := #[.int .i64 t123, .slice none 0 0]) ?_ 1 _ rfl; (with_reducible repeat (first | refine blk_drewN ?_ _ | refine blk_drew ?_ | refine blk_alloc ?_ _)); refine blk_put (cs := #[.int .i64 x102000_1, .slice none 0 0]) ?_ 0 _ rfl; (with_reducible repeat (first | refine blk_drewN ?_ _ | refine blk_drew ?_ | refine blk_alloc ?_ _)); exact BK101.out) Try.underlying26 rfl (by kernel_rfl)) rfl ?_
                    exact ⟨_, by first | rfl | (simp [errW_none, errW_some] <;> rfl) | (simp [*, errW_none, errW_some] <;> rfl), by (with_reducible repeat (first | apply Kd.R_alloc | apply Kd.R_drewN | apply Kd.R_drew)); exact Kd.R_mono (Kd.R_far (p := ⟨gb101, 1, none⟩) (Kd.R_far (p := ⟨gb101, 0, none⟩) (Kd.R_types HO126.out BK101.out (by decide)) (fun _ hk => hk.2) (.int .i64 t123)) (fun _ hk => hk.2) (.slice Ao114 t124.length co114)) (fun _ hk => trivial), by repeat (first | (with_reducible first | exact HB.out | apply below_alloc | apply pw_below_drewN | apply below_drew1 | refine below_set ?_ GE101.out) | exact HB.out)⟩
            · rw [if_neg c20] at H
              exact absurd H (by simp)
          · rw [if_neg c19] at H
            exact absurd H (by simp)
        · replace c18 := Bool.eq_false_iff.mpr c18
          subst c18
          have H1 : ((sloperef3_none.f).bind fun bt116 => (some (bt116.1, bt116.2, 0, 60))) = some (r1, r2, r3, r4) := by rw [if_neg (show ¬ (false = true) by decide)] at H; exact H
          clear H
          have H := H1
          clear H1
          replace H := Option.bind_eq_some_iff.mp H
          obtain ⟨⟨t116, t117⟩, A1150, H⟩ := H
          replace H : (some (t116, t117, 0, 60)) = some (r1, r2, r3, r4) := H
          have A115 := Aside0.mk A1150
          clear A1150
          simp only [Option.some.injEq, Prod.mk.injEq] at H
          obtain ⟨rfl, rfl, rfl, rfl⟩ := H
          go_enter Try.func36, Try.ntmps36
          go_wp2_with (first | ((with_reducible refine gate_dst (N := 2) rfl ?_); refine box_event ?hg (N := 2) ?hd (cs := #[.int .i64 0, .slice none 0 0]) (t := 26) ?hr ?_; (case hd => rfl); (case hg => rfl); (case hr => first | (go_simp; done) | (go_simp; rfl)); intro gb101 hg w116 hbox hb; have n0_ := Aside0.mk (below_step (by repeat (first | (with_reducible first | exact HB.out | apply below_alloc | apply pw_below_drewN | apply below_drew1) | exact HB.out)) hb); have n1_ := Aside0.mk (hbox); have n2_ := Aside0.mk ((by rw [hg]; exact (below_size (by repeat (first | (with_reducible first | exact HB.out | apply below_alloc | apply pw_below_drewN | apply below_drew1) | exact HB.out))) : w.heap.size ≤ gb101)); have n3_ := Aside0.mk ((by rw [hg]; exact (below_size (by repeat (first | (with_reducible first | exact HB.out | apply below_alloc | apply pw_below_drewN | apply below_drew1) | exact HB.out))) : w.heap.size ≤ gb101)); clear HB; have HB := n0_; have BK101 := n1_; have GW101 := n2_; have GE101 := n3_; clear n0_ n1_ n2_ n3_; clear hb hbox hg) | ((with_reducible refine gate_callee (f := 73) rfl ?_); refine goesL_ (some 18) rfl rfl Try.func73 (by kernel_rfl) rfl #[.string a0] rfl (by (try simp only [List.map_toArray, List.map_cons, List.map_nil]); first | done | rfl | (simp only [List.length_drop, List.length_take]; rfl)) ?_; (with_reducible refine (sloperef3_form.calls k a0 t106 t107 _ A8.out).mono ?_); rintro e w117 ⟨v108, rfl, ho0, hb⟩; refine ⟨_, rfl, ?_⟩; have n0_ := Aside0.mk (Kd.R_lower ho0 (below_size (by repeat (first | (with_reducible first | exact HB.out | apply below_alloc | apply pw_below_drewN | apply below_drew1 | refine below_set ?_ GE101.out) | exact HB.out)))); have n1_ := Aside0.mk (blk_below (g := gb101) (o := .cells #[.int .i64 0, .slice none 0 0] 26 (0, 0)) (by (with_reducible repeat (first | refine blk_drewN ?_ _ | refine blk_drew ?_ | refine blk_alloc ?_ _)); exact BK101.out) hb); have n2_ := Aside0.mk (below_step (by repeat (first | (with_reducible first | exact HB.out | apply below_alloc | apply pw_below_drewN | apply below_drew1 | refine below_set ?_ GE101.out) | exact HB.out)) hb); clear BK101; clear HB; have HO109 := n0_; have BK101 := n1_; have HB := n2_; clear n0_ n1_ n2_; (try clear hb); (try clear hb2); (try clear hk); (try clear hi); (try clear ho0); obtain ⟨Ao118, co118, eo118⟩ := Kd.R_slice HO109.out; subst eo118; have p114 : 0 ≤ (0 : Int) := (by omega); have q114 : 0 < (t106.length : Int) := of_decide_eq_true (by first | (with_reducible assumption) | assumption); obtain ⟨ad114, e114, hx114_0, hx114_1, hx114_2⟩ := at_T100 (Kd.R_reads' HO109.out).2.2 0 p114 q114; cases e114; have qi114 : (0 < t106.length) = True := eq_true (by omega); (try rw [show ((0 : Int)).toNat = 0 from rfl] at hx114_0); (try rw [show 0 * 3 = 0 from rfl] at hx114_0); (try rw [Addr.add_zero'] at hx114_0); (try rw [show ((0 : Int)).toNat = 0 from rfl] at hx114_1); (try rw [show 0 * 3 = 0 from rfl] at hx114_1); (try rw [Addr.add_zero'] at hx114_1); (try rw [show ((0 : Int)).toNat = 0 from rfl] at hx114_2); (try rw [show 0 * 3 = 0 from rfl] at hx114_2); (try rw [Addr.add_zero'] at hx114_2); replace p114 := eq_true p114; replace q114 := eq_true q114) | ((with_reducible refine gate_callee (f := 59) rfl ?_); refine goesL_ (some 30) rfl rfl Try.func59 (by kernel_rfl) rfl #[.int .i64 ((rd_T100 t106 0).f0)] rfl (by (try simp only [List.map_toArray, List.map_cons, List.map_nil]); first | done | rfl | (simp only [List.length_drop, List.length_take]; rfl)) ?_; (with_reducible refine (sloperef3_sized.calls ((rd_T100 t106 0).f0) false _ A17.out).mono ?_); rintro e w' ⟨rfl, ⟨nd, rfl⟩⟩; refine ⟨_, rfl, ?_⟩; (try (rw [drewN_self w117]; generalize hq_ : World.drewN w117 _ = w117; have n0_ : Aside0 (Kd.R k100 100 w117 w.heap.size (fun _ => True) (.slice (some ad114) t106.length co118) t106) := ⟨by rw [← hq_]; exact (by (with_reducible repeat (first | apply Kd.R_alloc | apply Kd.R_drewN | apply Kd.R_drew)); exact HO109.out)⟩; have n1_ : Aside0 (w117.heap[gb101]? = some (.cells #[.int .i64 0, .slice none 0 0] 26 (0, 0))) := ⟨by rw [← hq_]; exact (by (with_reducible repeat (first | refine blk_drewN ?_ _ | refine blk_drew ?_ | refine blk_alloc ?_ _)); exact BK101.out)⟩; have n2_ : Aside0 (Below w.heap.size w w117) := ⟨by rw [← hq_]; exact (by repeat (first | (with_reducible first | exact HB.out | apply below_alloc | apply pw_below_drewN | apply below_drew1 | refine below_set ?_ GE101.out) | exact HB.out))⟩; clear HO109 BK101 HB hq_; have HO109 := n0_; have BK101 := n1_; have HB := n2_; clear n0_ n1_ n2_))) | ((with_reducible refine gate_callee (f := 60) rfl ?_); refine goesL_ (some 32) rfl rfl Try.func60 (by kernel_rfl) rfl #[] rfl (by (try simp only [List.map_toArray, List.map_cons, List.map_nil]); first | done | rfl | (simp only [List.length_drop, List.length_take]; rfl)) ?_; (with_reducible refine (sloperef3_none.calls  t116 t117 _ A115.out).mono ?_); rintro e w119 ⟨v118, rfl, ho0, hb⟩; refine ⟨_, rfl, ?_⟩; have n0_ := Aside0.mk (Kd.R_below (by (with_reducible repeat (first | apply Kd.R_alloc | apply Kd.R_drewN | apply Kd.R_drew)); exact HO109.out) hb); have n1_ := Aside0.mk (Kd.R_lower ho0 (below_size (by repeat (first | (with_reducible first | exact HB.out | apply below_alloc | apply pw_below_drewN | apply below_drew1 | refine below_set ?_ GE101.out) | exact HB.out)))); have n2_ := Aside0.mk (blk_below (g := gb101) (o := .cells #[.int .i64 0, .slice none 0 0] 26 (0, 0)) (by (with_reducible repeat (first | refine blk_drewN ?_ _ | refine blk_drew ?_ | refine blk_alloc ?_ _)); exact BK101.out) hb); have n3_ := Aside0.mk (below_step (by repeat (first | (with_reducible first | exact HB.out | apply below_alloc | apply pw_below_drewN | apply below_drew1 | refine below_set ?_ GE101.out) | exact HB.out)) hb); clear HO109; clear BK101; clear HB; have HO109 := n0_; have HO119 := n1_; have BK101 := n2_; have HB := n3_; clear n0_ n1_ n2_ n3_; (try clear hb); (try clear hb2); (try clear hk); (try clear hi); (try clear ho0); have hcz120_0 : w119.cell? ⟨gb101, 0, none⟩ = some (.int .i64 0) := (blk_cell BK101.out 0).trans rfl; have hcz120_1 : w119.cell? ⟨gb101, 1, none⟩ = some (.slice none 0 0) := (blk_cell BK101.out 1).trans rfl; have hfz120_0 := blk_frozen BK101.out 0; have hfz120_1 := blk_frozen BK101.out 1; obtain ⟨Ao121, co121, eo121⟩ := Kd.R_slice HO119.out; subst eo121))
          refine bodyPost_ret (results_ctt rfl _ _ gb101 26 #[.int .i64 t116, .slice Ao121 t117.length co121] (0, 0) _ rfl (by (with_reducible repeat (first | refine blk_drewN ?_ _ | refine blk_drew ?_ | refine blk_alloc ?_ _)); refine blk_put (cs := #[.int .i64 t116, .slice none 0 0]) ?_ 1 _ rfl; (with_reducible repeat (first | refine blk_drewN ?_ _ | refine blk_drew ?_ | refine blk_alloc ?_ _)); refine blk_put (cs := #[.int .i64 0, .slice none 0 0]) ?_ 0 _ rfl; (with_reducible repeat (first | refine blk_drewN ?_ _ | refine blk_drew ?_ | refine blk_alloc ?_ _)); exact BK101.out) Try.underlying26 rfl (by kernel_rfl)) rfl ?_
          exact ⟨_, by first | rfl | (simp [errW_none, errW_some] <;> rfl) | (simp [*, errW_none, errW_some] <;> rfl), by (with_reducible repeat (first | apply Kd.R_alloc | apply Kd.R_drewN | apply Kd.R_drew)); exact Kd.R_mono (Kd.R_far (p := ⟨gb101, 1, none⟩) (Kd.R_far (p := ⟨gb101, 0, none⟩) (Kd.R_types HO119.out BK101.out (by decide)) (fun _ hk => hk.2) (.int .i64 t116)) (fun _ hk => hk.2) (.slice Ao121 t117.length co121)) (fun _ hk => trivial), by repeat (first | (with_reducible first | exact HB.out | apply below_alloc | apply pw_below_drewN | apply below_drew1 | refine below_set ?_ GE101.out) | exact HB.out)⟩
      · rw [if_neg c16] at H
        exact absurd H (by simp)
end Go.Proofs.Ytjmkhdhffmlhiaa.PAll
end
section
namespace Go.Proofs.Ytjmkhdhffmlhiaa.PAll
open Go.RowKit Go.Proofs.YtjmkhdhffmlhiaaW.PrintWords Go.Proofs.YtjmkhdhffmlhiaaW.PrintLast Go.Proofs.YtjmkhdhffmlhiaaW.PrintMore
attribute [local go_sem] max2_int min2_int max_two min_two max_three min_three max_four min_four w64_u8 w64_mod256   -- for this text's walks alone
set_option linter.unusedVariables false
set_option linter.unusedSimpArgs false
end Go.Proofs.Ytjmkhdhffmlhiaa.PAll
end
section
namespace Go.Proofs.Ytjmkhdhffmlhiaa.PAll
open Go.RowKit Go.Proofs.YtjmkhdhffmlhiaaW.PrintWords Go.Proofs.YtjmkhdhffmlhiaaW.PrintLast Go.Proofs.YtjmkhdhffmlhiaaW.PrintMore
end Go.Proofs.Ytjmkhdhffmlhiaa.PAll
end
section
namespace Go.Proofs.Ytjmkhdhffmlhiaa.PAll
open Go.RowKit Go.Proofs.YtjmkhdhffmlhiaaW.PrintWords Go.Proofs.YtjmkhdhffmlhiaaW.PrintLast Go.Proofs.YtjmkhdhffmlhiaaW.PrintMore
end Go.Proofs.Ytjmkhdhffmlhiaa.PAll
end
section
namespace Go.Proofs.Ytjmkhdhffmlhiaa.PAll
open Go.RowKit Go.Proofs.YtjmkhdhffmlhiaaW.PrintWords Go.Proofs.YtjmkhdhffmlhiaaW.PrintLast Go.Proofs.YtjmkhdhffmlhiaaW.PrintMore
theorem same_sets (n : Int) (l : List Int) (hb : l.length ≤ 9223372036854775807) : ∃ k, slopelaw3_same.f k n l n l = some true := by
  have key : ∀ d i : Nat, i + d = l.length → ∃ k, slopelaw3_same.l0 k (i : Int) n l n l = some true := by
    intro d
    induction d with
    | zero => intro i h; exact ⟨1, by simp only [slopelaw3_same.l0]; rw [if_neg (by omega)]⟩
    | succ d ih =>
      intro i h
      obtain ⟨k, hk⟩ := ih (i + 1) (by omega)
      refine ⟨k + 1, ?_⟩
      simp only [slopelaw3_same.l0]
      rw [if_pos (by omega), if_pos (by omega), if_pos (by omega)]
      rw [show wrap64 ((i : Int) + 1) = ((i + 1 : Nat) : Int) by unfold wrap64; omega]
      simpa using hk
  obtain ⟨k, hk⟩ := key l.length 0 (by omega)
  refine ⟨k + 1, ?_⟩
  unfold slopelaw3_same.f
  rw [if_pos rfl]
  simp only [slopelaw3_same.j0]
  rw [if_neg (by simp)]
  exact hk
theorem same_ev (n : Int) (l : List Int) (hb : l.length ≤ 9223372036854775807) : Ev (fun k => slopelaw3_same.f k n l n l) true := by
  obtain ⟨k, hk⟩ := same_sets n l hb
  exact Ev.of (fun k => slopelaw3_same.mono _ _ _ _ k) hk
end Go.Proofs.Ytjmkhdhffmlhiaa.PAll
end
section
namespace Go.Proofs.Ytjmkhdhffmlhiaa.PAll
open Go.RowKit Go.Proofs.YtjmkhdhffmlhiaaW.PrintWords Go.Proofs.YtjmkhdhffmlhiaaW.PrintLast Go.Proofs.YtjmkhdhffmlhiaaW.PrintMore
attribute [local go_sem] max2_int min2_int max_two min_two max_three min_three max_four min_four w64_u8 w64_mod256   -- for this text's walks alone
set_option linter.unusedVariables false
set_option linter.unusedSimpArgs false
def slopelaw3_num.f (a0 : Int) : Option (Int) := some a0
set_option maxHeartbeats 8000000 in
set_option maxRecDepth 100000 in
theorem slopelaw3_num.calls (a0 : Int) (r : Int) (w : World) (h : slopelaw3_num.f a0 = some r) :
    Calls Try.prog 19 #[.int .i64 a0] w fun e w' => e = .returned (.int .i64 r) ∧ Drawn0 w w' := by
  have H : (some a0) = some r := h
  clear h
  obtain rfl := Option.some.inj H
  go_enter Try.func19, Try.ntmps19
  go_wp2
  go_ret
  exact ⟨by first | rfl | (simp; done) | (simp [*]; done), by repeat (first | exact Drawn0.refl _ | apply Drawn0.step)⟩
end Go.Proofs.Ytjmkhdhffmlhiaa.PAll
end
section
namespace Go.Proofs.Ytjmkhdhffmlhiaa.PAll
set_option linter.unusedVariables false
set_option linter.unusedSimpArgs false
open Go.RowKit Go.Proofs.YtjmkhdhffmlhiaaW.PrintWords Go.Proofs.YtjmkhdhffmlhiaaW.PrintLast Go.Proofs.YtjmkhdhffmlhiaaW.PrintMore
attribute [local go_sem] Oper.semAt_some
def ParseIs (t : ByteArray) (n : Int) (ws : List Int) (a c : Int) : Prop := ∀ (w : World), Calls Try.prog 35 #[.string t] w fun e w' => ∃ v : Value, e = .returned (.tuple #[.agg #[.int .i64 n, v], .int .i64 a, .int .i64 c]) ∧ Kd.R (Kd.int .u64) 82 w' w.heap.size (fun _ => True) v ws ∧ Below w.heap.size w w'
theorem parse_is {t : ByteArray} {n a c : Int} {ws : List Int} (h : ∀ r, ParseSays t r → r = (n, ws, a, c)) : ParseIs t n ws a c := by
  intro w
  obtain ⟨r, h1, h2⟩ := Parse_says t w
  obtain rfl := h r h1
  exact h2
theorem ParseSays.one {t : ByteArray} {r s : Int × List Int × Int × Int} (hr : ParseSays t r) (hs : ParseSays t s) : s = r := by
  unfold ParseSays at hr hs
  by_cases hz : 65536 < t.size
  · rw [if_pos hz] at hr hs
    rw [hr, hs]
  · rw [if_neg hz] at hr hs
    by_cases hq : 0 ≤ (nums t).2
    · rw [if_pos hq] at hr hs
      rw [hr, hs]
    · rw [if_neg hq] at hr hs
      obtain ⟨x0, l, g1, g2⟩ := hr
      obtain ⟨y0, m, f1, f2⟩ := hs
      rw [g1] at f1
      injection f1 with f1 _
      injection f1 with f3 f4
      subst f3 f4
      rcases g2 with ⟨g5, g6⟩ | ⟨n, g5, g6, g7⟩
      · rcases f2 with ⟨f5, f6⟩ | ⟨m, f5, f6, f7⟩
        · rw [g6, f6]
        · exact absurd ⟨by omega, by omega⟩ g5
      · rcases f2 with ⟨f5, f6⟩ | ⟨m, f5, f6, f7⟩
        · exact absurd ⟨by omega, by omega⟩ f5
        · obtain rfl : m = n := by omega
          rcases g7 with ⟨q, ws, g8, g9, g10⟩ | ⟨a, c, g8, g9⟩ <;> rcases f7 with ⟨q', ws', f8, f9, f10⟩ | ⟨a', c', f8, f9⟩
          · rw [g8] at f8
            injection f8 with f8
            subst f8
            obtain rfl := g9.eq f9 (fun _ _ => rfl)
            rw [g10, f10]
          · rw [g8] at f8; cases f8
          · rw [g8] at f8; cases f8
          · rw [g8] at f8
            injection f8 with f8
            injection f8 with f8 f11
            subst f8 f11
            rw [g9, f9]
set_option maxHeartbeats 8000000 in
set_option maxRecDepth 100000 in
theorem BitTexts_walk (k s1 : Nat) (tt : ByteArray) (w : World) (n a c : Int) (ws : List Int) (h1 : ParseIs tt n ws a c) (h2 : sloperef3_Parse.f k tt = some (n, ws, a, c)) (t1 : slopelaw3_same.f s1 n ws n ws = some true) :
    Calls Try.prog 7 #[.string tt] w fun e w' => e = .returned (.bool true) ∧ Below w.heap.size w w' := by
  have hu24 := Try.underlying26
  have H1 := Aside0.mk h1
  have H2 := Aside0.mk h2
  have S1 := Aside0.mk t1
  clear h1 h2 t1
  have HB := Aside0.mk (Below.refl w.heap.size w)
  refine (callsIn_wide (n := 6)).1 ?_
  refine callsIn_of_wp Try.func7 rfl trivial ?_ rfl
  simp only [Try.ntmps7, List.size_toArray, List.length_cons, List.length_nil, Nat.reduceAdd, Nat.reduceSub, Array.replicate_succ, Array.replicate_zero, List.push_toArray, List.append_toArray, List.nil_append, List.cons_append]
  gi_wp2_with fail
  refine ⟨trivial, ?_⟩; gi_at_call 35
  refine (callsIn_wide.2 (H1.out _)).mono ?_
  rintro e w1 ⟨v1, rfl, ho, hb⟩
  obtain ⟨AQ1, cQ1, et⟩ := Kd.R_slice ho
  subst et
  have lQ1 := Aside0.mk (Kd.R_reads' ho).2.1; have mQ1 := Aside0.mk (Kd.R_reads' ho).2.2
  clear ho
  have nHB_ := Aside0.mk (below_step HB.out hb)
  clear HB
  have HB := nHB_
  clear nHB_
  have Q1 := mQ1; clear mQ1
  have xK1 := Aside0.mk (blk_new w1 (.cells #[.int .i64 n, .slice AQ1 ws.length cQ1] 26 (0, 0)))
  clear hb
  have nHB_ := Aside0.mk (below_alloc HB.out (.cells #[.int .i64 n, .slice AQ1 ws.length cQ1] 26 (0, 0)))
  have nQ1_ := Aside0.mk (Kd.C_alloc Q1.out (.cells #[.int .i64 n, .slice AQ1 ws.length cQ1] 26 (0, 0)))
  clear HB Q1
  have HB := nHB_; have Q1 := nQ1_
  clear nHB_ nQ1_
  have K1 := xK1; clear xK1
  gi_wp2_with fail
  refine ⟨trivial, ?_⟩; gi_at_call 36
  refine (callsIn_wide.2 (sloperef3_Parse.calls k tt n ws a c _ H2.out)).mono ?_
  rintro e w2 ⟨v2, rfl, ho, hb⟩
  obtain ⟨AQ2, cQ2, et⟩ := Kd.R_slice ho
  subst et
  have lQ2 := Aside0.mk (Kd.R_reads' ho).2.1; have mQ2 := Aside0.mk (Kd.R_reads' ho).2.2
  clear ho
  have nHB_ := Aside0.mk (below_step HB.out hb)
  have nQ1_ := Aside0.mk (Kd.C_below Q1.out hb)
  have nK1_ := Aside0.mk (blk_below K1.out hb)
  clear HB Q1 K1
  have HB := nHB_; have Q1 := nQ1_; have K1 := nK1_
  clear nHB_ nQ1_ nK1_
  have Q2 := mQ2; clear mQ2
  have xK2 := Aside0.mk (blk_new w2 (.cells #[.int .i64 n, .slice AQ2 ws.length cQ2] 26 (0, 0)))
  clear hb
  have nHB_ := Aside0.mk (below_alloc HB.out (.cells #[.int .i64 n, .slice AQ2 ws.length cQ2] 26 (0, 0)))
  have nQ1_ := Aside0.mk (Kd.C_alloc Q1.out (.cells #[.int .i64 n, .slice AQ2 ws.length cQ2] 26 (0, 0)))
  have nK1_ := Aside0.mk (blk_alloc K1.out (.cells #[.int .i64 n, .slice AQ2 ws.length cQ2] 26 (0, 0)))
  have nQ2_ := Aside0.mk (Kd.C_alloc Q2.out (.cells #[.int .i64 n, .slice AQ2 ws.length cQ2] 26 (0, 0)))
  clear HB Q1 K1 Q2
  have HB := nHB_; have Q1 := nQ1_; have K1 := nK1_; have Q2 := nQ2_
  clear nHB_ nQ1_ nK1_ nQ2_
  have K2 := xK2; clear xK2
  have qK10 := (blk_cell K1.out 0).trans rfl; have qK11 := (blk_cell K1.out 1).trans rfl
  have qK20 := (blk_cell K2.out 0).trans rfl; have qK21 := (blk_cell K2.out 1).trans rfl
  gi_wp2_with fail
  refine ⟨trivial, ?_⟩; gi_at_call 18
  refine (callsIn_wide.2 (slopelaw3_same.calls s1 n _ _ ws n _ _ ws true _ Q1.out lQ1.out Q2.out lQ2.out S1.out)).mono ?_
  rintro e w3 ⟨rfl, hb⟩
  clear qK10 qK11 qK20 qK21
  have nHB_ := Aside0.mk (below_step HB.out hb)
  clear HB K1 Q1 K2 Q2
  have HB := nHB_
  clear nHB_
  clear hb
  gi_wp2_with fail
  refine ⟨trivial, ?_⟩; gi_at_call 19
  refine (callsIn_wide.2 (slopelaw3_num.calls c c _ rfl)).mono ?_
  rintro e w4 ⟨rfl, hd⟩
  have hb := hd.below; clear hd
  have nHB_ := Aside0.mk (below_step HB.out hb)
  clear HB
  have HB := nHB_
  clear nHB_
  clear hb
  gi_wp2_with fail
  refine bodyPost_ret (v := .bool true) ?_ rfl ⟨rfl, HB.out⟩
  simp [results, Try.f7, go_sem]
theorem ParseSays.short {t : ByteArray} {r : Int × List Int × Int × Int} (h : ParseSays t r) : r.2.1.length ≤ 9223372036854775807 := by
  unfold ParseSays at h
  by_cases hz : 65536 < t.size
  · rw [if_pos hz] at h
    rw [h]
    simp
  · rw [if_neg hz] at h
    by_cases hq : 0 ≤ (nums t).2
    · rw [if_pos hq] at h
      rw [h]
      simp
    · rw [if_neg hq] at h
      obtain ⟨x0, l, g1, g2⟩ := h
      rcases g2 with ⟨g5, g6⟩ | ⟨n, g5, g6, ⟨q, ws, g8, g9, g10⟩ | ⟨a, c, g8, g9⟩⟩
      · rw [g6]
        simp
      · rw [g10]
        have := g9.len
        show ws.length ≤ _
        omega
      · rw [g9]
        simp
theorem BitTexts_calls (tt : ByteArray) (w : World) :
    Calls Try.prog 7 #[.string tt] w fun e w' => e = .returned (.bool true) ∧ Below w.heap.size w w' := by
  obtain ⟨r, r1, ⟨k, hk⟩⟩ := refParse_says tt
  obtain ⟨s1, t1⟩ := same_ev r.1 r.2.1 r1.short
  exact BitTexts_walk k s1 tt w r.1 r.2.2.1 r.2.2.2 r.2.1 (parse_is fun s hs => r1.one hs) (hk k (Nat.le_refl _)) (t1 s1 (Nat.le_refl _))
end Go.Proofs.Ytjmkhdhffmlhiaa.PAll
end
