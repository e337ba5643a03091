import Derived.Test.YtjmkhdhffmlhiaaDoorBzBitTables2
import Derived.Test.YtjmkhdhffmlhiaaDoorBzBitTables4
import Derived.Test.YtjmkhdhffmlhiaaDoorBzBitTables3
import Derived.Lib.Hide
import Derived.StillTailTactics
section
namespace Go.Proofs.YtjmkhdhffmlhiaaDoor.PAll
open Go.RowKit Go.Proofs.YtjmkhdhffmlhiaaDoorW.PrintWords Go.Proofs.YtjmkhdhffmlhiaaDoorW.PrintLast Go.Proofs.YtjmkhdhffmlhiaaDoorW.PrintMore
attribute [local go_sem] max2_int min2_int max_two min_two max_three min_three max_four min_four w64_u8 w64_mod256   -- for this text's walks alone
set_option linter.unusedVariables false
set_option linter.unusedSimpArgs false
mutual
def sloperef3_MakeTable.j0 : Nat → Int → List (S24) → Int → Bool → Option (Int × (List (S24)) × Int)
  | 0, _, _, _, _ => none
  | k + 1, x0, x1, x6, x18 => if x18 = true then (sloperef3_MakeTable.j1 k x0 x1 1) else (sloperef3_MakeTable.j1 k x0 x1 x6)
def sloperef3_MakeTable.j1 : Nat → Int → List (S24) → Int → Option (Int × (List (S24)) × Int)
  | 0, _, _, _ => none
  | k + 1, x0, x1, x6 => if x6 = 0 then (sloperef3_MakeTable.l0 k x1 0 x0 ([] : List (S24))) else (some (0, ([] : List (S24)), x6))
def sloperef3_MakeTable.l0 : Nat → List (S24) → Int → Int → List (S24) → Option (Int × (List (S24)) × Int)
  | 0, _, _, _, _ => none
  | k + 1, x1, x8, x104000, x104001 => if x8 < (x1.length : Int) then (if 0 ≤ x8 then ((sloperef3_Copied.f ((rd_T24 x1 x8).f0) ((rd_T24 x1 x8).f1)).bind fun bt105 => (if x104001.length < 4398046511104 then (sloperef3_MakeTable.l0 k x1 (wrap64 (x8 + 1)) x104000 (x104001 ++ [(⟨bt105.1, bt105.2⟩ : S24)])) else (none))) else (none)) else (some (x104000, x104001, 0))
end
def sloperef3_MakeTable.f (k : Nat) (a0 : Int) (l1 : List (S24)) : Option (Int × (List (S24)) × Int) := (sloperef3_fit.f k a0 l1).bind fun t102 => (if t102 = 0 then (sloperef3_MakeTable.j0 k a0 l1 t102 (decide ((l1.length : Int) > 4096))) else (sloperef3_MakeTable.j0 k a0 l1 t102 false))
def sloperef3_MakeTable.T10 : Bool × List (List Nat × List Nat) := (true, [([], []), ([0], [0]), ([], []), ([], []), ([2, 3], [2, 3]), ([4], [4]), ([5], [5]), ([6], [6]), ([1, 7, 6], [1, 7]), ([0, 1, 2, 3, 4, 5, 6, 7, 8], []), ([9, 8, 8, 0, 1, 2, 3, 4, 5, 6, 7, 8], [8, 9])])
def sloperef3_MakeTable.B10 : List Nat := [0, 1, 0, 0, 12, 28, 60, 124, 255, 511, 1023]
theorem sloperef3_MakeTable.tab10 : rtab .any (opsOf Tryd.f49 10) = sloperef3_MakeTable.T10 := by kernel_rfl
theorem sloperef3_MakeTable.bits10 : waitsOk sloperef3_MakeTable.T10.2 sloperef3_MakeTable.B10 = true := by kernel_rfl
set_option maxHeartbeats 8000000 in
set_option maxRecDepth 100000 in
theorem sloperef3_MakeTable.calls (k : Nat) (a0 : Int) (A1 : Option Addr) (c1 : Nat) (l1 : List (S24)) (r1 : Int) (r2 : List (S24)) (r3 : Int) (w : World) (hr1 : Kd.C k24 w A1 l1.length l1) (hc1 : l1.length ≤ c1) (h : sloperef3_MakeTable.f k a0 l1 = some (r1, r2, r3)) :
    Calls Tryd.prog 49 #[.int .i64 a0, .slice A1 l1.length c1] w fun e w' => ∃ v1_ : Value, e = .returned (.tuple #[.agg #[.int .i64 r1, v1_], .int .i64 r3]) ∧ Kd.S k24 24 w' w.heap.size (fun _ => True) v1_ r2 ∧ Below w.heap.size w w' := by
  have hu56 := Tryd.underlying56
  have hu24 := Tryd.underlying24
  have HR1 := Aside0.mk hr1
  have HC1 := Aside0.mk hc1
  clear hr1 hc1
  have HB := Aside0.mk (Below.refl w.heap.size w)
  have H : ((sloperef3_fit.f k a0 l1).bind fun t102 => (if t102 = 0 then (sloperef3_MakeTable.j0 k a0 l1 t102 (decide ((l1.length : Int) > 4096))) else (sloperef3_MakeTable.j0 k a0 l1 t102 false))) = some (r1, r2, r3) := h
  clear h
  replace H := Option.bind_eq_some_iff.mp H
  obtain ⟨t102, A30, H⟩ := H
  replace H : (if t102 = 0 then (sloperef3_MakeTable.j0 k a0 l1 t102 (decide ((l1.length : Int) > 4096))) else (sloperef3_MakeTable.j0 k a0 l1 t102 false)) = some (r1, r2, r3) := H
  have A3 := Aside0.mk A30
  clear A30
  have HC4 := Aside0.mk H
  clear H
  go_enter Tryd.func49, Tryd.ntmps49
  go_upto_region 2 with (first | ((with_reducible refine gate_dst (N := 4) rfl ?_); (try (refine gate_guard (by rfl) ?_; dsimp only)); refine box_event ?hg (N := 4) ?hd (cs := #[.int .i64 0, .slice none 0 0]) (t := 56) ?hr ?_; (case hd => rfl); (case hg => rfl); (case hr => first | (go_simp; done) | (go_simp; rfl)); intro gb101 hg w5 hbox hb; have n0_ := Aside0.mk (below_step (by repeat (first | (with_reducible first | exact HB.out | apply below_alloc | apply pw_below_drewN | apply below_drew1) | exact HB.out)) hb); have n1_ := Aside0.mk (hbox); have n2_ := Aside0.mk ((by rw [hg]; exact (below_size (by repeat (first | (with_reducible first | exact HB.out | apply below_alloc | apply pw_below_drewN | apply below_drew1) | exact HB.out))) : w.heap.size ≤ gb101)); have n3_ := Aside0.mk ((by rw [hg]; exact (below_size (by repeat (first | (with_reducible first | exact HB.out | apply below_alloc | apply pw_below_drewN | apply below_drew1) | exact HB.out))) : w.heap.size ≤ gb101)); clear HB; have HB := n0_; have BK101 := n1_; have GW101 := n2_; have GE101 := n3_; clear n0_ n1_ n2_ n3_; clear hb hbox hg) | ((with_reducible refine gate_callee (f := 91) rfl ?_); refine goesL_ (some 11) rfl rfl Tryd.func91 (by kernel_rfl) rfl #[.int .i64 a0, .slice A1 l1.length c1] rfl (by (try simp only [List.map_toArray, List.map_cons, List.map_nil]); first | done | rfl | (simp only [List.length_drop, List.length_take]; rfl)) ?_; (with_reducible refine (sloperef3_fit.calls k a0 _ _ l1 t102 _ ?side1 ?side2 A3.out).mono ?_); (case side1 => repeat (first | exact (Kd.C_below HR1.out HB.out) | (with_reducible refine Kd.C_alloc ?_ _) | (with_reducible refine Kd.C_drewN ?_ _) | (with_reducible refine Kd.C_drew ?_))); (case side2 => exact HC1.out); rintro e w6 ⟨rfl, hb⟩; refine ⟨_, rfl, ?_⟩; have n0_ := Aside0.mk (blk_below (g := gb101) (o := .cells #[.int .i64 0, .slice none 0 0] 56 (0, 0)) (by (with_reducible repeat (first | refine blk_drewN ?_ _ | refine blk_drew ?_ | refine blk_alloc ?_ _)); exact BK101.out) hb); have n1_ := Aside0.mk (below_step (by repeat (first | (with_reducible first | exact HB.out | apply below_alloc | apply pw_below_drewN | apply below_drew1 | refine below_set ?_ GE101.out) | exact HB.out)) hb); clear BK101; clear HB; have BK101 := n0_; have HB := n1_; clear n0_ n1_; (try clear hb); (try clear hb2); (try clear hk); (try clear hi)))
  (try simp only [Act.put, List.setIfInBounds_toArray, List.set_cons_zero, List.set_cons_succ])
  go_cut [18] (fun v18 wc => ∃ (kq : Nat) (x18_3 : Bool), v18 = .bool x18_3 ∧ Aside0 (sloperef3_MakeTable.j0 kq a0 l1 t102 x18_3 = some (r1, r2, r3)) ∧ Aside0 (kq ≤ k) ∧ Aside0 (wc.heap[gb101]? = some (.cells #[.int .i64 0, (.slice none 0 0)] 56 (0, 0))) ∧ Aside0 (Below w.heap.size w wc))
  case first =>
    have H := HC4.out
    clear HC4
    by_cases c7 : t102 = 0
    · rw [if_pos c7] at H
      have c7b0 : (t102 == 0) = true := beq_iff_eq.mpr c7
      have c7b1 : (t102 != 0) = false := bne_eq_false_iff_eq.mpr c7
      clear c7
      (first | rw [c7b0] | (simp only [i64_w, i32_w]; rw [c7b0]) | skip)
      have H' := Aside0.mk H
      clear H
      go_wp2
      go_meet
      case rel => exact ⟨_, (decide ((l1.length : Int) > 4096)), (by first | rfl | (simp; done) | (simp [*]; done)), H', ⟨by first | omega | exact Nat.le_refl _⟩, ⟨by (with_reducible repeat (first | refine blk_drewN ?_ _ | refine blk_drew ?_ | refine blk_alloc ?_ _)); exact BK101.out⟩, ⟨by repeat (first | (with_reducible first | exact HB.out | apply below_alloc | apply pw_below_drewN | apply below_drew1 | refine below_set ?_ GE101.out) | exact HB.out)⟩⟩
    · rw [if_neg c7] at H
      have c7b0 : (t102 == 0) = false := beq_eq_false_iff_ne.mpr c7
      have c7b1 : (t102 != 0) = true := bne_iff_ne.mpr c7
      (first | rw [c7b0] | (simp only [i64_w, i32_w]; rw [c7b0]) | skip)
      have H' := Aside0.mk H
      clear H
      go_wp2
      go_meet
      case rel => exact ⟨_, (false), (by first | rfl | (simp; done) | (simp [*]; done)), H', ⟨by first | omega | exact Nat.le_refl _⟩, ⟨by (with_reducible repeat (first | refine blk_drewN ?_ _ | refine blk_drew ?_ | refine blk_alloc ?_ _)); exact BK101.out⟩, ⟨by repeat (first | (with_reducible first | exact HB.out | apply below_alloc | apply pw_below_drewN | apply below_drew1 | refine below_set ?_ GE101.out) | exact HB.out)⟩⟩
  case rest =>
    clear HC4
    try clear c1
    try clear p2
    try clear c4
    try clear c7
    try clear c7b0
    try clear c7b1
    obtain ⟨kq, x18_3, rfl, HA, HJ3, BK101, HB⟩ := hcut
    cases kq with
    | zero => exact absurd HA.out (by simp [sloperef3_MakeTable.j0])
    | succ kj3 =>
      have H := HA.out
      clear HA
      simp only [sloperef3_MakeTable.j0] at H
      have HC8 := Aside0.mk H
      clear H
      go_upto_if 18 with (fail)
      go_cut [6] (fun v6 wc => ∃ (kq : Nat) (x6_7 : Int), v6 = .int .i64 x6_7 ∧ Aside0 (sloperef3_MakeTable.j1 kq a0 l1 x6_7 = some (r1, r2, r3)) ∧ Aside0 (kq ≤ kj3) ∧ Aside0 (wc.heap[gb101]? = some (.cells #[.int .i64 0, (.slice none 0 0)] 56 (0, 0))) ∧ Aside0 (Below w.heap.size w wc))
      case first =>
        have H := HC8.out
        clear HC8
        by_cases c9 : x18_3 = true
        · subst c9
          have H1 : (sloperef3_MakeTable.j1 kj3 a0 l1 1) = some (r1, r2, r3) := by rw [if_pos rfl] at H; exact H
          clear H
          have H := H1
          clear H1
          have H' := Aside0.mk H
          clear H
          go_wp2
          go_meet
          case rel => exact ⟨_, (1), (by first | rfl | (simp; done) | (simp [*]; done)), H', ⟨by have := HJ3.out; first | omega | exact Nat.le_refl _⟩, ⟨by (with_reducible repeat (first | refine blk_drewN ?_ _ | refine blk_drew ?_ | refine blk_alloc ?_ _)); exact BK101.out⟩, ⟨by repeat (first | (with_reducible first | exact HB.out | apply below_alloc | apply pw_below_drewN | apply below_drew1 | refine below_set ?_ GE101.out) | exact HB.out)⟩⟩
        · replace c9 := Bool.eq_false_iff.mpr c9
          subst c9
          have H1 : (sloperef3_MakeTable.j1 kj3 a0 l1 t102) = some (r1, r2, r3) := by rw [if_neg (show ¬ (false = true) by decide)] at H; exact H
          clear H
          have H := H1
          clear H1
          have H' := Aside0.mk H
          clear H
          go_wp2
          go_meet
          case rel => exact ⟨_, (t102), (by first | rfl | (simp; done) | (simp [*]; done)), H', ⟨by have := HJ3.out; first | omega | exact Nat.le_refl _⟩, ⟨by (with_reducible repeat (first | refine blk_drewN ?_ _ | refine blk_drew ?_ | refine blk_alloc ?_ _)); exact BK101.out⟩, ⟨by repeat (first | (with_reducible first | exact HB.out | apply below_alloc | apply pw_below_drewN | apply below_drew1 | refine below_set ?_ GE101.out) | exact HB.out)⟩⟩
      case rest =>
        clear HC8
        try clear c1
        try clear p2
        try clear c4
        try clear c7
        try clear c7b0
        try clear c7b1
        try clear c9
        try clear p2
        obtain ⟨kq, x6_7, rfl, HA, HJ7, BK101, HB⟩ := hcut
        cases kq with
        | zero => exact absurd HA.out (by simp [sloperef3_MakeTable.j1])
        | succ kj7 =>
          have H := HA.out
          clear HA
          simp only [sloperef3_MakeTable.j1] at H
          by_cases c10 : x6_7 = 0
          · rw [if_pos c10] at H
            have c10b0 : (x6_7 == 0) = true := beq_iff_eq.mpr c10
            have c10b1 : (x6_7 != 0) = false := bne_eq_false_iff_eq.mpr c10
            clear c10
            have H' := Aside0.mk H
            clear H
            go_wp2_with (first | ((with_reducible refine gate_dst (N := 7) rfl ?_); (try (refine gate_guard (by rfl) ?_; dsimp only)); refine box_event ?hg (N := 7) ?hd (cs := #[.int .i64 0, .slice none 0 0]) (t := 56) ?hr ?_; (case hd => rfl); (case hg => rfl); (case hr => first | (go_simp; done) | (go_simp; rfl)); intro gb103 hg w11 hbox hb; have n0_ := Aside0.mk (blk_below (g := gb101) (o := .cells #[.int .i64 0, .slice none 0 0] 56 (0, 0)) (by (with_reducible repeat (first | refine blk_drewN ?_ _ | refine blk_drew ?_ | refine blk_alloc ?_ _)); exact BK101.out) hb); have n1_ := Aside0.mk (below_step (by repeat (first | (with_reducible first | exact HB.out | apply below_alloc | apply pw_below_drewN | apply below_drew1 | refine below_set ?_ GE101.out) | exact HB.out)) hb); have n2_ := Aside0.mk (hbox); have n3_ := Aside0.mk ((by rw [hg]; exact (below_size (by repeat (first | (with_reducible first | exact HB.out | apply below_alloc | apply pw_below_drewN | apply below_drew1 | refine below_set ?_ GE101.out) | exact HB.out))) : w.heap.size ≤ gb103)); have n4_ := Aside0.mk ((by rw [hg]; exact (below_size (by repeat (first | (with_reducible first | exact HB.out | apply below_alloc | apply pw_below_drewN | apply below_drew1 | refine below_set ?_ GE101.out) | exact HB.out))) : w.heap.size ≤ gb103)); have n5_ := Aside0.mk ((by rw [hg]; exact Nat.ne_of_lt (blk_lt (g := gb101) (o := .cells #[.int .i64 0, .slice none 0 0] 56 (0, 0)) (by (with_reducible repeat (first | refine blk_drewN ?_ _ | refine blk_drew ?_ | refine blk_alloc ?_ _)); exact BK101.out)) : gb101 ≠ gb103)); have n6_ := Aside0.mk ((by rw [hg]; exact Nat.ne_of_gt (blk_lt (g := gb101) (o := .cells #[.int .i64 0, .slice none 0 0] 56 (0, 0)) (by (with_reducible repeat (first | refine blk_drewN ?_ _ | refine blk_drew ?_ | refine blk_alloc ?_ _)); exact BK101.out)) : gb103 ≠ gb101)); clear BK101; clear HB; have BK101 := n0_; have HB := n1_; have BK103 := n2_; have GW103 := n3_; have GE103 := n4_; have NB101_103 := n5_; have NB103_101 := n6_; clear n0_ n1_ n2_ n3_ n4_ n5_ n6_; clear hb hbox hg; have hnb12 := NB103_101.out; have hnc12 := NB101_103.out; have hcz13_0 : w11.cell? ⟨gb103, 0, none⟩ = some (.int .i64 0) := (blk_cell BK103.out 0).trans rfl; have hcz13_1 : w11.cell? ⟨gb103, 1, none⟩ = some (.slice none 0 0) := (blk_cell BK103.out 1).trans rfl; have hfz13_0 := blk_frozen BK103.out 0; have hfz13_1 := blk_frozen BK103.out 1))
            go_loopg [8] kj7 (fun kq v8 w' => ∃ (x8_3 : Int) (x104001_3 : List (S24)) (u104001 : Value), v8 = .int .i64 x8_3 ∧ Aside0 (sloperef3_MakeTable.l0 kq l1 x8_3 a0 x104001_3 = some (r1, r2, r3)) ∧ Aside0 (kq ≤ kj7) ∧ Aside0 (Kd.S k24 24 w' w.heap.size (fun _ => True) u104001 x104001_3) ∧ Aside0 (w'.heap[gb101]? = some (.cells #[.int .i64 0, (.slice none 0 0)] 56 (0, 0))) ∧ Aside0 (w'.heap[gb103]? = some (.cells #[.int .i64 a0, u104001] 56 (0, 0))) ∧ Aside0 (Below w.heap.size w w'))
            case atStart => exact ⟨(0), (([] : List (S24))), (.slice none 0 0), (by first | rfl | (simp; done) | (simp [*]; done)), H', ⟨Nat.le_refl _⟩, ⟨by first | exact Kd.S_nil _ _ _ _ _ | exact Kd.N_nil _ _ _ _ _ | exact Kd.V_nil _ _ _ _ _ | exact Kd.Q_nil _ _ _ _ _ | exact Kd.R_nil _ _ _ _ _⟩, ⟨by (with_reducible repeat (first | refine blk_drewN ?_ _ | refine blk_drew ?_ | refine blk_alloc ?_ _)); refine blk_far ?_ NB101_103.out _; (with_reducible repeat (first | refine blk_drewN ?_ _ | refine blk_drew ?_ | refine blk_alloc ?_ _)); refine blk_far ?_ NB101_103.out _; (with_reducible repeat (first | refine blk_drewN ?_ _ | refine blk_drew ?_ | refine blk_alloc ?_ _)); exact BK101.out⟩, ⟨by (with_reducible repeat (first | refine blk_drewN ?_ _ | refine blk_drew ?_ | refine blk_alloc ?_ _)); refine blk_put (cs := #[.int .i64 a0, .slice none 0 0]) ?_ 1 _ rfl; (with_reducible repeat (first | refine blk_drewN ?_ _ | refine blk_drew ?_ | refine blk_alloc ?_ _)); refine blk_put (cs := #[.int .i64 0, .slice none 0 0]) ?_ 0 _ rfl; (with_reducible repeat (first | refine blk_drewN ?_ _ | refine blk_drew ?_ | refine blk_alloc ?_ _)); exact BK103.out⟩, ⟨by repeat (first | (with_reducible first | exact HB.out | apply below_alloc | apply pw_below_drewN | apply below_drew1 | refine below_set ?_ GE101.out | refine below_set ?_ GE103.out) | exact HB.out)⟩⟩
            case round =>
              clear H'
              try clear c1
              try clear p2
              try clear c4
              try clear c7
              try clear c7b0
              try clear c7b1
              try clear c9
              try clear c10
              try clear c10b0
              try clear c10b1
              try clear c12
              try clear hcz13_0
              try clear hcz13_1
              try clear hfz13_0
              try clear hfz13_1
              try clear p2
              obtain ⟨x8_3, x104001_3, u104001, rfl, HA, HK3, HO_104001, BK101, BK103, HB⟩ := hrel
              cases gk with
              | zero => exact absurd HA.out (by simp [sloperef3_MakeTable.l0])
              | succ k3 =>
                have H := HA.out
                clear HA
                simp only [sloperef3_MakeTable.l0] at H
                by_cases c14 : x8_3 < (l1.length : Int)
                · rw [if_pos c14] at H
                  have c14b0 : decide (x8_3 < (l1.length : Int)) = true := decide_eq_true c14
                  clear c14
                  by_cases c15 : 0 ≤ x8_3
                  · rw [if_pos c15] at H
                    have c15b0 : decide (0 ≤ x8_3) = true := decide_eq_true c15
                    clear c15
                    replace H := Option.bind_eq_some_iff.mp H
                    obtain ⟨⟨t105, t106⟩, A160, H⟩ := H
                    replace H : (if x104001_3.length < 4398046511104 then (sloperef3_MakeTable.l0 k3 l1 (wrap64 (x8_3 + 1)) a0 (x104001_3 ++ [(⟨t105, t106⟩ : S24)])) else (none)) = some (r1, r2, r3) := H
                    have A16 := Aside0.mk A160
                    clear A160
                    by_cases c17 : x104001_3.length < 4398046511104
                    · rw [if_pos c17] at H
                      have LMc17 := Aside0.mk c17
                      clear c17
                      obtain ⟨y109, hy109⟩ : ∃ y_ : List (S24), y_ = (x104001_3 ++ [(⟨t105, t106⟩ : S24)]) := ⟨_, rfl⟩
                      replace H : (sloperef3_MakeTable.l0 k3 l1 (wrap64 (x8_3 + 1)) a0 y109) = some (r1, r2, r3) := by first | (rw [hy109]; with_reducible exact H) | (have H2_ := (Option.bind_some _ _).symm.trans H; rw [hy109]; with_reducible exact H2_) | (have H2_ := (Option.bind_some _ _).symm.trans H; with_reducible exact H2_) | with_reducible exact H | (rw [hy109]; exact H) | exact H
                      have Ny109 := Aside0.mk hy109
                      clear hy109
                      have H' := Aside0.mk H
                      clear H
                      try go_wp2
                      have n0_ := Aside0.mk (Kd.S_drew HO_104001.out)
                      have n1_ := Aside0.mk (blk_drew BK101.out)
                      have n2_ := Aside0.mk (blk_drew BK103.out)
                      have n3_ := Aside0.mk (below_drew1 HB.out)
                      clear HO_104001
                      clear BK101
                      clear BK103
                      clear HB
                      have HO_104001 := n0_
                      have BK101 := n1_
                      have BK103 := n2_
                      have HB := n3_
                      clear n0_ n1_ n2_ n3_
                      have p104 : 0 ≤ (x8_3 : Int) := of_decide_eq_true (by first | (with_reducible assumption) | assumption)
                      have q104 : x8_3 < (l1.length : Int) := of_decide_eq_true (by first | (with_reducible assumption) | assumption)
                      obtain ⟨ad104, A104_1, c104_1, e104, hx104_0, hx104_1, hl104_1, hi104_1⟩ := at_T24 HR1.out x8_3 p104 q104
                      have hw104_1 := hx104_1
                      have hw104_0 := hx104_0
                      cases e104
                      replace hx104_0 := (HB.out.cell (World.block_lt_of_cell? w _ hx104_0)).trans hx104_0
                      replace hx104_1 := (HB.out.cell (World.block_lt_of_cell? w _ hx104_1)).trans hx104_1
                      have HR104_1 := Aside0.mk hi104_1
                      have HC104_1 := Aside0.mk hl104_1
                      clear hi104_1 hl104_1
                      replace p104 := eq_true p104
                      replace q104 := eq_true q104
                      refine start_ (n := 11) (S := fun w' => w'.cell? ⟨gb103, 0, none⟩ = some (.int .i64 a0) ∧ w'.cell? ⟨gb103, 1, none⟩ = some (u104001) ∧ w'.cell? (ad104.add ((x8_3).toNat * 2)) = some (.int .i64 ((rd_T24 l1 x8_3).f0)) ∧ w'.cell? ⟨(ad104.add ((x8_3).toNat * 2)).block, (ad104.add ((x8_3).toNat * 2)).off + 1, none⟩ = some (.slice A104_1 ((rd_T24 l1 x8_3).f1).length c104_1)) (ds := [10]) #[false, false, false, false, false, false, false, false, false, false, false] (by kernel_rfl) rfl rfl ⟨(blk_cell BK103.out 0).trans rfl, (blk_cell BK103.out 1).trans rfl, ((HB.out.cell (World.block_lt_of_cell? w _ hw104_0)).trans hw104_0), ((HB.out.cell (World.block_lt_of_cell? w _ hw104_1)).trans hw104_1)⟩ (fun hHeld => ?_); refine with_tabW sloperef3_MakeTable.tab10 sloperef3_MakeTable.bits10 (fun HT_ HW_ => ?_)
                      generalize wr.drew = w18 at HO_104001 BK101 BK103 HB HR104_1 hx104_0 hx104_1 hHeld ⊢
                      refine pure_ (i := 0) (N := some 31) (v := ?_) (a' := ?_) #[true, false, false, false, false, false, false, false, false, false, false] rfl rfl (any_of HT_.out (by kernel_rfl)) (fun _ _ _ h => h) (Or.inl ⟨by rfl, ?_⟩) ?_ ?_
                      rotate_left
                      · intro w'
                        go_simp
                        with_reducible rfl
                      rotate_left
                      · simp only [Act.put, List.setIfInBounds_toArray, List.set_cons_zero, List.set_cons_succ, i64_w, i32_w]
                        rfl
                      refine pure_ (i := 2) (N := some 33) (v := ?_) (a' := ?_) #[true, false, true, false, false, false, false, false, false, false, false] rfl rfl (any_of HT_.out (by kernel_rfl)) (fun _ _ _ h => h) (Or.inl ⟨by rfl, ?_⟩) ?_ ?_
                      rotate_left
                      · intro w'
                        go_simp
                        with_reducible rfl
                      rotate_left
                      · simp only [Act.put, List.setIfInBounds_toArray, List.set_cons_zero, List.set_cons_succ, i64_w, i32_w]
                        rfl
                      refine pure_ (i := 3) (N := some 34) (v := ?_) (a' := ?_) #[true, false, true, true, false, false, false, false, false, false, false] rfl rfl (any_of HT_.out (by kernel_rfl)) (fun _ _ _ h => h) (Or.inl ⟨by rfl, ?_⟩) ?_ ?_
                      rotate_left
                      · intro w'
                        go_simp
                        with_reducible rfl
                      rotate_left
                      · simp only [Act.put, List.setIfInBounds_toArray, List.set_cons_zero, List.set_cons_succ, i64_w, i32_w]
                        rfl
                      refine pure_ (i := 4) (N := some 35) (v := ?_) (a' := ?_) #[true, false, true, true, true, false, false, false, false, false, false] rfl rfl (any_of HT_.out (by kernel_rfl)) (fun _ _ _ h => h) (Or.inl ⟨by rfl, ?_⟩) ?_ ?_
                      rotate_left
                      · intro w'
                        go_simp
                        with_reducible rfl
                      rotate_left
                      · simp only [Act.put, List.setIfInBounds_toArray, List.set_cons_zero, List.set_cons_succ, i64_w, i32_w]
                        rfl
                      refine take_ (i := 1) (N := some 32) (v := ?_) (a' := ?_) #[true, true, true, true, true, false, false, false, false, false, false] rfl rfl (take_ofW HT_.out HW_.out (by kernel_rfl)) (fun _ _ _ h => h) (Or.inl ⟨by rfl, ?_⟩) hHeld ?_ ?_
                      rotate_left
                      · rintro w' ⟨s0, s1, s2, s3⟩
                        go_simp
                        with_reducible rfl
                      rotate_left
                      · simp only [Act.put, List.setIfInBounds_toArray, List.set_cons_zero, List.set_cons_succ, i64_w, i32_w]
                        rfl
                      refine take_ (i := 5) (N := some 36) (v := ?_) (a' := ?_) #[true, true, true, true, true, true, false, false, false, false, false] rfl rfl (take_ofW HT_.out HW_.out (by kernel_rfl)) (fun _ _ _ h => h) (Or.inl ⟨by rfl, ?_⟩) hHeld ?_ ?_
                      rotate_left
                      · rintro w' ⟨s0, s1, s2, s3⟩
                        go_simp
                        with_reducible rfl
                      rotate_left
                      · simp only [Act.put, List.setIfInBounds_toArray, List.set_cons_zero, List.set_cons_succ, i64_w, i32_w]
                        rfl
                      refine one_ (i := 6) (N := some 37) #[true, true, true, true, true, true, true, false, false, false, false] rfl rfl (one_of HT_.out (by kernel_rfl)) (by decide) (fun K hK => ?_)
                      refine goes_ Tryd.func92 (by kernel_rfl) rfl #[.agg #[.int .i64 ((rd_T24 l1 x8_3).f0), .slice A104_1 ((rd_T24 l1 x8_3).f1).length c104_1]] (by rfl) rfl rfl (by (try simp only [List.map_toArray, List.map_cons, List.map_nil]); first | done | rfl | (simp only [List.length_drop, List.length_take]; rfl)) ?_
                      with_reducible refine (sloperef3_Copied.calls ((rd_T24 l1 x8_3).f0) _ _ ((rd_T24 l1 x8_3).f1) t105 t106 _ ?side1 ?side2 A16.out).mono ?_
                      (case side1 => repeat (first | exact (Kd.C_below HR104_1.out HB.out) | (with_reducible refine Kd.C_alloc ?_ _) | (with_reducible refine Kd.C_drewN ?_ _) | (with_reducible refine Kd.C_drew ?_)))
                      (case side2 => exact HC104_1.out)
                      rintro e w19 ⟨v107, rfl, ho0, hb⟩
                      refine ⟨_, rfl, ?_⟩
                      have n0_ := Aside0.mk (Kd.S_elder' (by (with_reducible repeat (first | apply Kd.S_alloc | apply Kd.S_drewN | apply Kd.S_drew)); exact HO_104001.out) (Kd.R_base ho0) hb)
                      have n1_ := Aside0.mk (Kd.R_lower ho0 (below_size (by repeat (first | (with_reducible first | exact HB.out | apply below_alloc | apply pw_below_drewN | apply below_drew1 | refine below_set ?_ GE101.out | refine below_set ?_ GE103.out) | exact HB.out))))
                      have n2_ := Aside0.mk (blk_below (g := gb101) (o := .cells #[.int .i64 0, .slice none 0 0] 56 (0, 0)) (by (with_reducible repeat (first | refine blk_drewN ?_ _ | refine blk_drew ?_ | refine blk_alloc ?_ _)); exact BK101.out) hb)
                      have n3_ := Aside0.mk (blk_below (g := gb103) (o := .cells #[.int .i64 a0, u104001] 56 (0, 0)) (by (with_reducible repeat (first | refine blk_drewN ?_ _ | refine blk_drew ?_ | refine blk_alloc ?_ _)); exact BK103.out) hb)
                      have n4_ := Aside0.mk (below_step (by repeat (first | (with_reducible first | exact HB.out | apply below_alloc | apply pw_below_drewN | apply below_drew1 | refine below_set ?_ GE101.out | refine below_set ?_ GE103.out) | exact HB.out)) hb)
                      clear HO_104001
                      clear BK101
                      clear BK103
                      clear HB
                      have HO_104001 := n0_
                      have HO108 := n1_
                      have BK101 := n2_
                      have BK103 := n3_
                      have HB := n4_
                      clear n0_ n1_ n2_ n3_ n4_
                      (try clear hb)
                      (try clear hb2)
                      (try clear hk)
                      (try clear hi)
                      (try clear ho0)
                      obtain ⟨Ao21, co21, eo21⟩ := Kd.R_slice HO108.out
                      (first | subst eo21 | (injection eo21 with f1_ f2_ f3_; have f4_ := f1_.symm; have f5_ := f3_.symm; clear f1_ f2_ f3_; subst f4_; subst f5_))
                      refine hK.out _ _ ⟨(blk_cell BK103.out 0).trans rfl, (blk_cell BK103.out 1).trans rfl, ((HB.out.cell (World.block_lt_of_cell? w _ hw104_0)).trans hw104_0), ((HB.out.cell (World.block_lt_of_cell? w _ hw104_1)).trans hw104_1)⟩ (fun hHeld => ?_)
                      clear hK K
                      refine norm_ (a' := ?_) ?_ ?_
                      rotate_left
                      · show Act.put _ (some 37) _ = _
                        simp only [Act.put, List.setIfInBounds_toArray, List.set_cons_zero, List.set_cons_succ, i64_w, i32_w]
                        rfl
                      refine one_ (i := 7) (N := some 38) #[true, true, true, true, true, true, true, true, false, false, false] rfl rfl (one_of HT_.out (by kernel_rfl)) (by decide) (fun K hK => ?_)
                      refine value_ (w1 := ?_) (v := ?_) (by rfl) rfl ?_ ?_
                      rotate_left 2
                      · go_simp
                        constructor
                        · rfl
                        · rfl
                      refine hK.out _ _ ⟨(blk_cell (blk_alloc BK103.out _) 0).trans rfl, (blk_cell (blk_alloc BK103.out _) 1).trans rfl, (World.cell?_alloc_lt _ _ _ (World.block_lt_of_cell? _ _ (((HB.out.cell (World.block_lt_of_cell? w _ hw104_0)).trans hw104_0)))).trans (((HB.out.cell (World.block_lt_of_cell? w _ hw104_0)).trans hw104_0)), (World.cell?_alloc_lt _ _ _ (World.block_lt_of_cell? _ _ (((HB.out.cell (World.block_lt_of_cell? w _ hw104_1)).trans hw104_1)))).trans (((HB.out.cell (World.block_lt_of_cell? w _ hw104_1)).trans hw104_1))⟩ (fun hHeld => ?_)
                      clear hK K
                      refine norm_ (a' := ?_) ?_ ?_
                      rotate_left
                      · show Act.put _ (some 38) _ = _
                        simp only [Act.put, List.setIfInBounds_toArray, List.set_cons_zero, List.set_cons_succ, i64_w, i32_w]
                        rfl
                      refine one_ (i := 8) (N := some 39) #[true, true, true, true, true, true, true, true, true, false, false] rfl rfl (one_of HT_.out (by kernel_rfl)) (by decide) (fun K hK => ?_)
                      refine Kd.S_append_step k24 (w0 := w) w.heap.size (by rfl) (.tmp 32) (.tmp 38) 54 24 (.agg #[(.int .i64 0), (.slice none 0 0)]) 32 rfl Tryd.underlying54 info24 rfl (by decide) (by omega) u104001 x104001_3 (⟨t105, t106⟩ : S24) [.int .i64 t105, .slice Ao21 t106.length co21] (fun _ => True) (fun k_ => some k_ = (.slice Ao21 t106.length co21 : Value).ownBlock) rfl rfl ?aP (fun k_ hk_ => ((Kd.R_mono (ok' := fun k_ => ((fun _ => True)) k_ ∧ some k_ ≠ (u104001 : Value).ownBlock) (Kd.R_apart' (HO108.out) (Kd.S_typed HO_104001.out) (by decide)) (fun k_ hk => ⟨trivial, hk.2⟩))).1 k_ hk_.symm) ?aF ?aO ?aB ?aS ?aL ?_
                      (case aP => exact k24_mkM _ _ _ (⟨t105, t106⟩ : S24) (Kd.R_mono (Kd.R_tight rfl (Kd.R_mono (ok' := fun k_ => ((fun _ => True)) k_ ∧ some k_ ≠ (u104001 : Value).ownBlock) (Kd.R_apart' (HO108.out) (Kd.S_typed HO_104001.out) (by decide)) (fun k_ hk => ⟨trivial, hk.2⟩))) (fun _ h_ => h_)))
                      (case aB => exact (by repeat (first | (with_reducible first | exact HB.out | apply below_alloc | apply pw_below_drewN | apply below_drew1 | refine below_set ?_ GE101.out | refine below_set ?_ GE103.out) | exact HB.out)))
                      (case aF => exact (fun _ _ => trivial))
                      (case aO => exact (by (with_reducible repeat (first | apply Kd.S_alloc | apply Kd.S_drewN | apply Kd.S_drew)); exact Kd.S_mono HO_104001.out (fun k_ hk => ⟨trivial, fun e_ => hk.2 e_⟩)))
                      (case aS => exact (below_size (by repeat (first | (with_reducible first | exact HB.out | apply below_alloc | apply pw_below_drewN | apply below_drew1 | refine below_set ?_ GE101.out | refine below_set ?_ GE103.out) | exact HB.out))))
                      (case aL => have := LMc17.out; omega)
                      intro v110 w20 ho hb hg hat
                      rw [← Ny109.out] at ho
                      have n0_ := Aside0.mk (blk_grown (g := gb101) (o := .cells #[.int .i64 0, .slice none 0 0] 56 (0, 0)) (by (with_reducible repeat (first | refine blk_drewN ?_ _ | refine blk_drew ?_ | refine blk_alloc ?_ _)); exact BK101.out) hg (Kd.S_ne HO_104001.out BK101.out (by decide)))
                      have n1_ := Aside0.mk (blk_grown (g := gb103) (o := .cells #[.int .i64 a0, u104001] 56 (0, 0)) (by (with_reducible repeat (first | refine blk_drewN ?_ _ | refine blk_drew ?_ | refine blk_alloc ?_ _)); exact BK103.out) hg (Kd.S_ne HO_104001.out BK103.out (by decide)))
                      have n2_ := Aside0.mk (hb)
                      have n3_ := Aside0.mk (ho)
                      clear BK101
                      clear BK103
                      clear HB
                      clear HO_104001
                      clear HO108
                      have BK101 := n0_
                      have BK103 := n1_
                      have HB := n2_
                      have HO111 := n3_
                      clear n0_ n1_ n2_ n3_
                      clear ho hb hg hat
                      obtain ⟨Ao22, co22, eo22⟩ := Kd.S_slice HO111.out
                      (first | subst eo22 | (injection eo22 with f1_ f2_ f3_; have f4_ := f1_.symm; have f5_ := f3_.symm; clear f1_ f2_ f3_; subst f4_; subst f5_))
                      refine hK.out _ _ ⟨(blk_cell BK103.out 0).trans rfl, (blk_cell BK103.out 1).trans rfl, ((HB.out.cell (World.block_lt_of_cell? w _ hw104_0)).trans hw104_0), ((HB.out.cell (World.block_lt_of_cell? w _ hw104_1)).trans hw104_1)⟩ (fun hHeld => ?_)
                      clear hK K
                      refine norm_ (a' := ?_) ?_ ?_
                      rotate_left
                      · show Act.put _ (some 39) _ = _
                        simp only [Act.put, List.setIfInBounds_toArray, List.set_cons_zero, List.set_cons_succ, i64_w, i32_w]
                        rfl
                      refine pure_ (i := 9) (N := some 40) (v := ?_) (a' := ?_) #[true, true, true, true, true, true, true, true, true, true, false] rfl rfl (any_of HT_.out (by kernel_rfl)) (fun _ _ _ h => h) (Or.inl ⟨by rfl, ?_⟩) ?_ ?_
                      rotate_left
                      · intro w'
                        go_simp
                        with_reducible rfl
                      rotate_left
                      · simp only [Act.put, List.setIfInBounds_toArray, List.set_cons_zero, List.set_cons_succ, i64_w, i32_w]
                        rfl
                      refine last_ (i := 10) (N := none) #[true, true, true, true, true, true, true, true, true, true, true] rfl rfl (one_of HT_.out (by kernel_rfl)) (by decide) (fun K hK => ?_)
                      have hs23 : w20.cell? ⟨gb103, 1, none⟩ = some (u104001) := (blk_cell BK103.out 1).trans rfl
                      have hfs23 := blk_frozen BK103.out 1
                      have hns23_0 := NB101_103.out
                      have hms23_0 := NB103_101.out
                      refine skip_ (w1 := ?_) (by rfl) rfl ?_ ?_
                      rotate_left
                      · go_simp
                        rfl
                      refine hK.out _ _ ?_
                      clear hK K
                      refine done_ (done_of HT_.out (by kernel_rfl)) ?_
                      try go_wp2
                      go_roundg k3
                      case measure => have := HJ3.out; have := HJ7.out; have := HK3.out; omega
                      case rel => exact ⟨(wrap64 (x8_3 + 1)), (y109), (.slice Ao22 y109.length co22), (by first | rfl | (simp; done) | (simp [*]; done)), H', ⟨by have := HJ3.out; have := HJ7.out; have := HK3.out; omega⟩, ⟨by (with_reducible repeat (first | apply Kd.S_alloc | apply Kd.S_drewN | apply Kd.S_drew)); exact Kd.S_mono (Kd.S_far (p := ⟨gb103, 1, none⟩) (Kd.S_types HO111.out BK103.out (by decide)) (fun _ hk => hk.2) (.slice Ao22 y109.length co22)) (fun _ hk => trivial)⟩, ⟨by (with_reducible repeat (first | refine blk_drewN ?_ _ | refine blk_drew ?_ | refine blk_alloc ?_ _)); refine blk_far ?_ NB101_103.out _; (with_reducible repeat (first | refine blk_drewN ?_ _ | refine blk_drew ?_ | refine blk_alloc ?_ _)); exact BK101.out⟩, ⟨by (with_reducible repeat (first | refine blk_drewN ?_ _ | refine blk_drew ?_ | refine blk_alloc ?_ _)); refine blk_put (cs := #[.int .i64 a0, u104001]) ?_ 1 _ rfl; (with_reducible repeat (first | refine blk_drewN ?_ _ | refine blk_drew ?_ | refine blk_alloc ?_ _)); exact BK103.out⟩, ⟨by repeat (first | (with_reducible first | exact HB.out | apply below_alloc | apply pw_below_drewN | apply below_drew1 | refine below_set ?_ GE101.out | refine below_set ?_ GE103.out) | exact HB.out)⟩⟩
                    · rw [if_neg c17] at H
                      exact absurd H (by simp)
                  · rw [if_neg c15] at H
                    exact absurd H (by simp)
                · rw [if_neg c14] at H
                  have c14b0 : decide (x8_3 < (l1.length : Int)) = false := decide_eq_false c14
                  clear c14
                  simp only [Option.some.injEq, Prod.mk.injEq] at H
                  obtain ⟨rfl, rfl, rfl⟩ := H
                  have hnb24 := NB103_101.out
                  have hnc24 := NB101_103.out
                  have hcz25_0 : wr.cell? ⟨gb103, 0, none⟩ = some (.int .i64 a0) := (blk_cell BK103.out 0).trans rfl
                  have hcz25_1 : wr.cell? ⟨gb103, 1, none⟩ = some (u104001) := (blk_cell BK103.out 1).trans rfl
                  have hfz25_0 := blk_frozen BK103.out 0
                  have hfz25_1 := blk_frozen BK103.out 1
                  have hcz26_0 : wr.cell? ⟨gb101, 0, none⟩ = some (.int .i64 0) := (blk_cell BK101.out 0).trans rfl
                  have hcz26_1 : wr.cell? ⟨gb101, 1, none⟩ = some (.slice none 0 0) := (blk_cell BK101.out 1).trans rfl
                  have hfz26_0 := blk_frozen BK101.out 0
                  have hfz26_1 := blk_frozen BK101.out 1
                  obtain ⟨Ao27, co27, eo27⟩ := Kd.S_slice HO_104001.out
                  subst eo27
                  go_wp2
                  refine bodyPost_ret (results_ct rfl _ _ gb101 56 #[.int .i64 a0, .slice Ao27 x104001_3.length co27] (0, 0) _ rfl (by (with_reducible repeat (first | refine blk_drewN ?_ _ | refine blk_drew ?_ | refine blk_alloc ?_ _)); refine blk_put (cs := #[.int .i64 a0, .slice none 0 0]) ?_ 1 _ rfl; (with_reducible repeat (first | refine blk_drewN ?_ _ | refine blk_drew ?_ | refine blk_alloc ?_ _)); refine blk_put (cs := #[.int .i64 0, .slice none 0 0]) ?_ 0 _ rfl; (with_reducible repeat (first | refine blk_drewN ?_ _ | refine blk_drew ?_ | refine blk_alloc ?_ _)); exact BK101.out) Tryd.underlying56 rfl (by kernel_rfl)) rfl ?_
                  exact ⟨_, by first | rfl | (simp [errW_none, errW_some] <;> rfl) | (simp [*, errW_none, errW_some] <;> rfl), by (with_reducible repeat (first | apply Kd.S_alloc | apply Kd.S_drewN | apply Kd.S_drew)); exact Kd.S_mono (Kd.S_far (p := ⟨gb101, 1, none⟩) (Kd.S_far (p := ⟨gb101, 0, none⟩) (Kd.S_types HO_104001.out BK101.out (by decide)) (fun _ hk => hk.2) (.int .i64 a0)) (fun _ hk => hk.2) (.slice Ao27 x104001_3.length co27)) (fun _ hk => trivial), by repeat (first | (with_reducible first | exact HB.out | apply below_alloc | apply pw_below_drewN | apply below_drew1 | refine below_set ?_ GE101.out | refine below_set ?_ GE103.out) | exact HB.out)⟩
          · rw [if_neg c10] at H
            have c10b0 : (x6_7 == 0) = false := beq_eq_false_iff_ne.mpr c10
            have c10b1 : (x6_7 != 0) = true := bne_iff_ne.mpr c10
            simp only [Option.some.injEq, Prod.mk.injEq] at H
            obtain ⟨rfl, rfl, rfl⟩ := H
            have hcz28_0 : wc.cell? ⟨gb101, 0, none⟩ = some (.int .i64 0) := (blk_cell BK101.out 0).trans rfl
            have hcz28_1 : wc.cell? ⟨gb101, 1, none⟩ = some (.slice none 0 0) := (blk_cell BK101.out 1).trans rfl
            have hfz28_0 := blk_frozen BK101.out 0
            have hfz28_1 := blk_frozen BK101.out 1
            go_wp2
            refine bodyPost_ret (results_ct rfl _ _ gb101 56 #[.int .i64 0, .slice none 0 0] (0, 0) _ rfl (by (with_reducible repeat (first | refine blk_drewN ?_ _ | refine blk_drew ?_ | refine blk_alloc ?_ _)); refine blk_put (cs := #[.int .i64 0, .slice none 0 0]) ?_ 1 _ rfl; (with_reducible repeat (first | refine blk_drewN ?_ _ | refine blk_drew ?_ | refine blk_alloc ?_ _)); refine blk_put (cs := #[.int .i64 0, .slice none 0 0]) ?_ 0 _ rfl; (with_reducible repeat (first | refine blk_drewN ?_ _ | refine blk_drew ?_ | refine blk_alloc ?_ _)); exact BK101.out) Tryd.underlying56 rfl (by kernel_rfl)) rfl ?_
            exact ⟨_, by first | rfl | (simp [errW_none, errW_some] <;> rfl) | (simp [*, errW_none, errW_some] <;> rfl), by first | exact Kd.S_nil _ _ _ _ _ | exact Kd.N_nil _ _ _ _ _ | exact Kd.V_nil _ _ _ _ _ | exact Kd.Q_nil _ _ _ _ _ | exact Kd.R_nil _ _ _ _ _, by repeat (first | (with_reducible first | exact HB.out | apply below_alloc | apply pw_below_drewN | apply below_drew1 | refine below_set ?_ GE101.out) | exact HB.out)⟩
end Go.Proofs.YtjmkhdhffmlhiaaDoor.PAll
end
section
namespace Go.Proofs.YtjmkhdhffmlhiaaDoor.PAll
set_option linter.unusedVariables false
set_option linter.unusedSimpArgs false
open Go.RowKit Go.Proofs.YtjmkhdhffmlhiaaDoorW.PrintWords Go.Proofs.YtjmkhdhffmlhiaaDoorW.PrintMore
theorem kb_inj {x y : Int} (hx : Wd x) (hy : Wd y) (h : kw x 8 = kw y 8) : x = y := by
  have h1 : ∀ j, j < 8 → x / 2 ^ (8 * j) % 256 = y / 2 ^ (8 * j) % 256 := by
    intro j hj
    have e1 : (kw x 8)[j]? = some (kb x j) := by simp [kw, hj]
    have e2 : (kw y 8)[j]? = some (kb y j) := by simp [kw, hj]
    rw [h, e2] at e1
    have e3 := Option.some.inj e1
    rw [← kb_val, ← kb_val, e3]
  have a0 := h1 0 (by omega); have a1 := h1 1 (by omega); have a2 := h1 2 (by omega); have a3 := h1 3 (by omega)
  have a4 := h1 4 (by omega); have a5 := h1 5 (by omega); have a6 := h1 6 (by omega); have a7 := h1 7 (by omega)
  obtain ⟨x0, x1⟩ := hx
  obtain ⟨y0, y1⟩ := hy
  simp only [Nat.mul_zero, Nat.mul_one, Nat.reduceMul, Int.pow_zero, Int.reducePow, Int.ediv_one] at a0 a1 a2 a3 a4 a5 a6 a7
  omega
theorem kbs_inj : ∀ {a b : List Int}, Wds a → Wds b → a.length = b.length → kbs a = kbs b → a = b
  | [], [], _, _, _, _ => rfl
  | [], _ :: _, _, _, h, _ => by simp at h
  | _ :: _, [], _, _, h, _ => by simp at h
  | x :: a, y :: b, ha, hb1, hl, h => by
    have h1 : kw x 8 ++ kbs a = kw y 8 ++ kbs b := h
    have h2 := List.append_inj h1 (by simp [kw])
    rw [kb_inj (ha x List.mem_cons_self) (hb1 y List.mem_cons_self) h2.1, kbs_inj (fun z hz => ha z (List.mem_cons_of_mem _ hz)) (fun z hz => hb1 z (List.mem_cons_of_mem _ hz)) (by simpa using hl) h2.2]
theorem cmp_l0 {n : Nat} (hn : n ≤ 4096) {p q : Nat → Bool} {a b : List Int} (ha : Is n p a) (hb1 : Is n q b) : ∀ i : Nat, i ≤ n → ∃ r, Ev (fun k => sloperef3_Compare.l0 k ((i : Int) - 1) (n : Int) a (n : Int) b) r ∧ (r = 0 ↔ ∀ j, j < i → p j = q j)
  | 0, _ => ⟨0, ⟨1, fun k hk => by
    obtain ⟨k, rfl⟩ : ∃ j, k = j + 1 := ⟨k - 1, by omega⟩
    show sloperef3_Compare.l0 (k + 1) (((0 : Nat) : Int) - 1) (n : Int) a (n : Int) b = _
    rw [sloperef3_Compare.l0, if_neg (by omega)]⟩, by simp⟩
  | i + 1, hi => by
    have hin : i < n := by omega
    have e0 : (((i + 1 : Nat) : Int) - 1) = (i : Int) := by omega
    by_cases hpq : p i = q i
    · obtain ⟨r, hE, hr⟩ := cmp_l0 hn ha hb1 i (by omega)
      refine ⟨r, Ev.step (fun k => ?_) hE, ?_⟩
      · rw [e0, sloperef3_Compare.l0, if_pos (by omega), in_is hn ha hin, Option.bind_some, in_is hn hb1 hin, Option.bind_some, hpq, bne_self_eq_false, if_neg (by decide), w64_nat (by omega) (by omega)]
      · rw [hr]
        exact ⟨fun h j hj => by
          by_cases hji : j = i
          · subst hji; exact hpq
          · exact h j (by omega), fun h j hj => h j (by omega)⟩
    · have hb2 : (p i != q i) = true := bne_iff_ne.2 hpq
      refine ⟨if p i = true then 1 else -1, ⟨1, fun k hk => ?_⟩, ?_⟩
      · obtain ⟨k, rfl⟩ : ∃ j, k = j + 1 := ⟨k - 1, by omega⟩
        show sloperef3_Compare.l0 (k + 1) (((i + 1 : Nat) : Int) - 1) (n : Int) a (n : Int) b = _
        rw [e0, sloperef3_Compare.l0, if_pos (by omega), in_is hn ha hin, Option.bind_some, in_is hn hb1 hin, Option.bind_some, if_pos hb2]
        split <;> rfl
      · constructor
        · intro h; split at h <;> simp at h
        · intro h; exact absurd (h i (by omega)) hpq
theorem cmp_ev {n : Nat} (hn : n ≤ 4096) {p q : Nat → Bool} {a b : List Int} (ha : Is n p a) (hb1 : Is n q b) : ∃ r, Ev (fun k => sloperef3_Compare.f k (n : Int) a (n : Int) b) r ∧ (r = 0 ↔ a = b) := by
  obtain ⟨r, ⟨K, hE⟩, hr⟩ := cmp_l0 hn ha hb1 n (Nat.le_refl _)
  obtain ⟨K1, h1⟩ := rMay_eq (n : Int) a ha.wds (by have := ha.len; omega)
  obtain ⟨K2, h2⟩ := rMay_eq (n : Int) b hb1.wds (by have := hb1.len; omega)
  refine ⟨r, ⟨K + K1 + K2 + 1, fun k hk => ?_⟩, ?_⟩
  · obtain ⟨k, rfl⟩ : ∃ j, k = j + 1 := ⟨k - 1, by omega⟩
    have y1 := h1 (k + 1) (by omega)
    have y2 := h2 (k + 1) (by omega)
    have y3 := hE k (by omega)
    dsimp only at y1 y2 y3
    show sloperef3_Compare.f (k + 1) (n : Int) a (n : Int) b = _
    unfold sloperef3_Compare.f
    rw [y1, may_true.2 (ha.may hn), Option.bind_some, if_pos rfl, y2, may_true.2 (hb1.may hn), Option.bind_some, sloperef3_Compare.j0, if_neg (by decide), if_neg (by omega), if_neg (by omega), w64_nat (by omega) (by omega)]
    exact y3
  · rw [hr]
    constructor
    · exact fun h => ha.eq hb1 h
    · intro h j hj
      subst h
      have e1 := ha.has j
      have e2 := hb1.has j
      rw [e1] at e2
      simpa [hj] using e2
def firstAt (bs : List (List UInt8)) (x : List UInt8) : Nat → Int → Int
  | 0, f => f
  | j + 1, f => if bs[j]? = some x then firstAt bs x j (j : Int) else firstAt bs x j f
theorem firstAt_eq {bs : List (List UInt8)} {x : List UInt8} : ∀ (j : Nat) (f : Int), j ≤ bs.length → firstAt bs x j f = if x ∈ bs.take j then ((bs.idxOf x : Nat) : Int) else f
  | 0, f, _ => by simp [firstAt]
  | j + 1, f, hj => by
    have hjl : j < bs.length := by omega
    rw [firstAt, List.take_succ_eq_append_getElem hjl]
    have hmem : ∀ y, y ∈ bs.take j ++ [bs[j]] ↔ y ∈ bs.take j ∨ y = bs[j] := fun y => by rw [List.mem_append, List.mem_singleton]
    by_cases h : bs[j] = x
    · have h2 : x ∈ bs.take j ++ [bs[j]] := (hmem x).2 (.inr h.symm)
      rw [if_pos (by rw [List.getElem?_eq_getElem hjl, h]), firstAt_eq j _ (by omega), if_pos h2]
      by_cases hm : x ∈ bs.take j
      · rw [if_pos hm]
      · rw [if_neg hm, idx_new hjl h hm]
    · rw [if_neg (by rw [List.getElem?_eq_getElem hjl]; intro e; exact h (Option.some.inj e)), firstAt_eq j _ (by omega)]
      by_cases hm : x ∈ bs.take j
      · rw [if_pos hm, if_pos ((hmem x).2 (.inl hm))]
      · rw [if_neg hm, if_neg]
        intro h4
        rcases (hmem x).1 h4 with h5 | h5
        · exact hm h5
        · exact h h5.symm
theorem bs_at {l : List S24} {j : Nat} (hj : j < l.length) : (bsOf l)[j]? = some (kbs (l[j]).f1) := by simp [bsOf, hj]
theorem refFirsts_l1 {n : Nat} (hn : n ≤ 4096) {p : Nat → Nat → Bool} {l : List S24} (hl : RowsAre l.length n p l) (hN : l.length ≤ 4096) {i : Nat} (hi : i < l.length) {acc : List Int} (hacc : acc.length < 17592186044416) {R : List Int × Int} : ∀ (j : Nat) (f : Int), j ≤ i →
    Ev (fun k => sloperef3_Firsts.l0 k (acc ++ [firstAt (bsOf l) (kbs (l[i]).f1) j f]) ((i + 1 : Nat) : Int) (n : Int) l) R → Ev (fun k => sloperef3_Firsts.l1 k acc (i : Int) f ((j : Int) - 1) (n : Int) l) R
  | 0, f, _, hR => by
    refine Ev.step (fun k => ?_) hR
    rw [sloperef3_Firsts.l1, if_neg (by omega), if_pos hacc, w64_nat (by omega) (by omega)]
    rfl
  | j + 1, f, hj, hR => by
    have hjl : j < l.length := by omega
    have e0 : (((j + 1 : Nat) : Int) - 1) = (j : Int) := by omega
    obtain ⟨a1, a2⟩ := hl.row hjl
    obtain ⟨b1, b2⟩ := hl.row hi
    obtain ⟨r, hC, hr⟩ := cmp_ev hn a2 b2
    have hw : (rd_T24 l (j : Int)).f1 = (rd_T24 l (i : Int)).f1 ↔ (bsOf l)[j]? = some (kbs (l[i]).f1) := by
      rw [rdT_nat l hjl, rdT_nat l hi, bs_at hjl]
      rw [rdT_nat l hjl] at a2
      rw [rdT_nat l hi] at b2
      constructor
      · intro h; rw [h]
      · intro h; exact kbs_inj a2.wds b2.wds (by rw [a2.len, b2.len]) (Option.some.inj h)
    rw [firstAt] at hR
    by_cases h0 : r = 0
    · rw [if_pos (hw.1 (hr.1 h0))] at hR
      refine Ev.step (f := fun k => (sloperef3_Compare.f k (n : Int) (rd_T24 l (j : Int)).f1 (n : Int) (rd_T24 l (i : Int)).f1).bind fun t => sloperef3_Firsts.l1 k acc (i : Int) (if t = 0 then (j : Int) else f) ((j : Int) - 1) (n : Int) l) (fun k => ?_) (Ev.bind hC (by rw [if_pos h0]; exact refFirsts_l1 hn hl hN hi hacc j (j : Int) (by omega) hR))
      rw [e0, sloperef3_Firsts.l1, if_pos (by omega), if_pos (by omega), if_pos (by omega), if_pos (by omega), if_pos (by omega), a1, b1, w64_nat (n := (j : Int) - 1) (by omega) (by omega)]
      refine congrArg _ (funext fun t => ?_)
      split <;> rfl
    · rw [if_neg (fun e => h0 (hr.2 (hw.2 e)))] at hR
      refine Ev.step (f := fun k => (sloperef3_Compare.f k (n : Int) (rd_T24 l (j : Int)).f1 (n : Int) (rd_T24 l (i : Int)).f1).bind fun t => sloperef3_Firsts.l1 k acc (i : Int) (if t = 0 then (j : Int) else f) ((j : Int) - 1) (n : Int) l) (fun k => ?_) (Ev.bind hC (by rw [if_neg h0]; exact refFirsts_l1 hn hl hN hi hacc j f (by omega) hR))
      rw [e0, sloperef3_Firsts.l1, if_pos (by omega), if_pos (by omega), if_pos (by omega), if_pos (by omega), if_pos (by omega), a1, b1, w64_nat (n := (j : Int) - 1) (by omega) (by omega)]
      refine congrArg _ (funext fun t => ?_)
      split <;> rfl
theorem refFirsts_l0 {n : Nat} (hn : n ≤ 4096) {p : Nat → Nat → Bool} {l : List S24} (hl : RowsAre l.length n p l) (hN : l.length ≤ 4096) : ∀ (d i : Nat), i + d = l.length →
    Ev (fun k => sloperef3_Firsts.l0 k (((bsOf l).take i).map fun x => ((bsOf l).idxOf x : Int)) (i : Int) (n : Int) l) (firstsOf l, 0)
  | 0, i, hi => by
    obtain rfl : i = l.length := by omega
    refine ⟨1, fun k hk => ?_⟩
    obtain ⟨k, rfl⟩ : ∃ j, k = j + 1 := ⟨k - 1, by omega⟩
    show sloperef3_Firsts.l0 (k + 1) _ (l.length : Int) (n : Int) l = _
    rw [sloperef3_Firsts.l0, if_neg (by omega), show (bsOf l).take l.length = bsOf l from List.take_of_length_le (by simp [bsOf])]
    rfl
  | d + 1, i, hi => by
    have hil : i < l.length := by omega
    have hib : i < (bsOf l).length := by simpa [bsOf] using hil
    have hbi : (bsOf l)[i] = kbs (l[i]).f1 := by simp [bsOf]
    have ih := refFirsts_l0 hn hl hN d (i + 1) (by omega)
    have h1 := refFirsts_l1 hn hl hN hil (acc := ((bsOf l).take i).map fun x => ((bsOf l).idxOf x : Int)) (by rw [List.length_map, List.length_take]; omega) (R := (firstsOf l, 0)) i (i : Int) (Nat.le_refl _) (by
      refine Ev.congr (fun k => ?_) ih
      rw [firstAt_eq i _ (by omega), List.take_succ_eq_append_getElem hib, List.map_append, hbi]
      by_cases hm : kbs (l[i]).f1 ∈ (bsOf l).take i
      · rw [if_pos hm]; rfl
      · rw [if_neg hm]
        have := idx_new hib hbi hm
        simp [this])
    refine Ev.step (fun k => ?_) h1
    rw [sloperef3_Firsts.l0, if_pos (by omega), w64_nat (n := (i : Int) - 1) (by omega) (by omega)]
theorem refFirsts_rows {n : Nat} (hn : n ≤ 4096) {p : Nat → Nat → Bool} {l : List S24} (hl : RowsAre l.length n p l) (hN : l.length ≤ 4096) : Ev (fun k => sloperef3_Firsts.f k (n : Int) l) (firstsOf l, 0) := by
  obtain ⟨hT, hg⟩ := hl.tab hN hn
  obtain ⟨K1, h1⟩ := rMayTable_eq (n : Int) l (by omega) hg
  obtain ⟨K3, h3⟩ := refFirsts_l0 hn hl hN l.length 0 (by omega)
  refine ⟨K1 + K3, fun k hk => ?_⟩
  have y1 := h1 k (by omega)
  have y3 := h3 k (by omega)
  dsimp only at y1 y3
  show sloperef3_Firsts.f k (n : Int) l = _
  unfold sloperef3_Firsts.f
  rw [y1, tabp_true.2 hT, Option.bind_some, if_pos rfl]
  exact y3
theorem refTurn_l1 {n m : Nat} (hn : n ≤ 4096) (hm : m ≤ 4096) {p : Nat → Nat → Bool} {l acc : List S24} (hl : RowsAre n m p l) {x : Nat} (hx : x < m) {R : Int × List S24 × Int} (hR : Ev (fun k => sloperef3_Turn.l1 k (x : Int) (fl n fun e => p e x) (n : Int) (m : Int) l (n : Int) acc) R) :
    Ev (fun k => sloperef3_Turn.l1 k (x : Int) (List.replicate n false) ((0 : Nat) : Int) (m : Int) l (n : Int) acc) R := by
  refine fill_loop n (fun e => p e x) (fun k inb i => sloperef3_Turn.l1 k (x : Int) inb i (m : Int) l (n : Int) acc) R (fun k i inb hi hlen => ?_) hR
  obtain ⟨b1, b2⟩ := hl.row hi
  conv => lhs; rw [sloperef3_Turn.l1]
  rw [if_pos (by rw [hl.1]; omega), if_pos (by omega), b1, in_is hm b2 hx, Option.bind_some, if_pos (by omega), Int.toNat_natCast, wi hn hi]
theorem refTurn_l0 {n m : Nat} (hn : n ≤ 4096) (hm : m ≤ 4096) {p : Nat → Nat → Bool} {l : List S24} (hl : RowsAre n m p l) : ∀ (d x : Nat) (acc : List S24), x + d = m → RowsAre x n (fun x e => p e x) acc →
    ∃ rows, RowsAre m n (fun x e => p e x) rows ∧ Ev (fun k => sloperef3_Turn.l0 k (x : Int) (m : Int) l (n : Int) acc) ((n : Int), rows, 0)
  | 0, x, acc, hx, hA => by
    obtain rfl : x = m := by omega
    refine ⟨acc, hA, 1, fun k hk => ?_⟩
    obtain ⟨k, rfl⟩ : ∃ j, k = j + 1 := ⟨k - 1, by omega⟩
    show sloperef3_Turn.l0 (k + 1) (x : Int) (x : Int) l (n : Int) acc = _
    rw [sloperef3_Turn.l0, if_neg (by omega)]
  | d + 1, x, acc, hx, hA => by
    have hxn : x < m := by omega
    obtain ⟨ws, hw, hO⟩ := of_fl hn (fun e => p e x)
    obtain ⟨rows, hR, hE⟩ := refTurn_l0 hn hm hl d (x + 1) (acc ++ [⟨(n : Int), ws⟩]) (by omega) (hA.snoc hw)
    refine ⟨rows, hR, ?_⟩
    have h1 := refTurn_l1 hn hm hl hxn (acc := acc) (R := ((n : Int), rows, 0)) (by
      refine Ev.step (f := fun k => (sloperef3_Of.f k (fl n fun e => p e x)).bind fun b => sloperef3_Turn.l0 k ((x + 1 : Nat) : Int) (m : Int) l (n : Int) (acc ++ [⟨b.1, b.2⟩])) (fun k => ?_) (Ev.bind hO hE)
      rw [sloperef3_Turn.l1, if_neg (by rw [hl.1]; omega), wi hm hxn]
      refine congrArg _ (funext fun b => ?_)
      rw [if_pos (by rw [hA.1]; omega)])
    refine Ev.step (fun k => ?_) h1
    rw [sloperef3_Turn.l0, if_pos (by omega), if_pos (by omega), hl.1, Int.toNat_natCast, if_pos (by omega)]
    rfl
theorem refTurn_rows {n m : Nat} (hn : n ≤ 4096) (hm : m ≤ 4096) {p : Nat → Nat → Bool} {l : List S24} (hl : RowsAre n m p l) : ∃ rows, RowsAre m n (fun x e => p e x) rows ∧ Ev (fun k => sloperef3_Turn.f k (m : Int) l) ((n : Int), rows, 0) := by
  obtain ⟨hT, hg⟩ := hl.tab hn hm
  obtain ⟨K1, h1⟩ := rMayTable_eq (m : Int) l (by rw [hl.1]; omega) hg
  obtain ⟨rows, hR, K3, h3⟩ := refTurn_l0 hn hm hl m 0 [] (by omega) ⟨rfl, fun _ h => by cases h⟩
  refine ⟨rows, hR, K1 + K3, fun k hk => ?_⟩
  have y1 := h1 k (by omega)
  have y3 := h3 k (by omega)
  dsimp only at y1 y3
  show sloperef3_Turn.f k (m : Int) l = _
  unfold sloperef3_Turn.f
  rw [y1, tabp_true.2 hT, Option.bind_some, if_pos rfl, hl.1]
  exact y3
theorem Turns_alike (n : Int) (l : List S24) (hl : l.length ≤ 9223372036854775807) (hg : Goods l) :
    ∃ x ys e, Ev (fun k => bitset_Turn.f k n l) (x, ys, e) ∧ Ev (fun k => sloperef3_Turn.f k n l) (x, ys, e) ∧ Ev (fun k => slopelaw3_sameTable.f k x ys x ys) true := by
  obtain ⟨K1, h1⟩ := rMayTable_eq n l hl hg
  by_cases hT : TabP n l
  · obtain ⟨m, rfl, hm, hN⟩ := nat_of hT
    have ha := RowsAre.of hT hg
    rw [Int.toNat_natCast] at ha
    obtain ⟨r1, hr1, hE1⟩ := Turn_rows hN hm ha
    obtain ⟨r2, hr2, hE2⟩ := refTurn_rows hN hm ha
    obtain rfl := hr1.eq hr2 fun x _ j _ => rfl
    exact ⟨_, _, _, hE1, hE2, hr1.same hm hN _⟩
  · refine ⟨0, [], 61, Turn_none hg hl hT, ⟨K1, fun k hk => ?_⟩, same_nil 0⟩
    have y1 := h1 k (by omega)
    dsimp only at y1
    show sloperef3_Turn.f k n l = _
    unfold sloperef3_Turn.f
    rw [y1, tabp_false.2 hT, Option.bind_some, if_neg (by decide)]
theorem refMake_l0 {n : Int} {l : List S24} (hN : l.length ≤ 4096) (hg : Goods l) (hle : ∀ x ∈ l, x.f1.length ≤ 1000000) : ∀ (d i : Nat), i + d = l.length → Ev (fun k => sloperef3_MakeTable.l0 k l (i : Int) n (l.take i)) (n, l, 0)
  | 0, i, hi => by
    obtain rfl : i = l.length := by omega
    refine ⟨1, fun k hk => ?_⟩
    obtain ⟨k, rfl⟩ : ∃ j, k = j + 1 := ⟨k - 1, by omega⟩
    show sloperef3_MakeTable.l0 (k + 1) l (l.length : Int) n (l.take l.length) = _
    rw [sloperef3_MakeTable.l0, if_neg (by omega), List.take_length]
  | d + 1, i, hi => by
    have hil : i < l.length := by omega
    refine Ev.step (fun k => ?_) (refMake_l0 hN hg hle d (i + 1) (by omega))
    have h2 := hle _ (List.getElem_mem hil)
    rw [sloperef3_MakeTable.l0, if_pos (by omega), if_pos (by omega), rdT_nat l hil]
    unfold sloperef3_Copied.f
    rw [if_pos (by rw [List.length_nil]; omega), Option.bind_some, List.nil_append]
    dsimp only
    rw [if_pos (by rw [List.length_take]; omega), wi hN hil, List.take_succ_eq_append_getElem hil]
theorem Makes_alike (n : Int) (l : List S24) (hl : l.length ≤ 9223372036854775807) (hg : Goods l) :
    ∃ x ys e, Ev (fun k => bitset_MakeTable.f k n l) (x, ys, e) ∧ Ev (fun k => sloperef3_MakeTable.f k n l) (x, ys, e) ∧ Ev (fun k => slopelaw3_sameTable.f k x ys x ys) true := by
  obtain ⟨r, hF, K1, h1⟩ := fit_eq n l hl hg
  obtain ⟨r2, hF2, K2, h2⟩ := rfit_eq n l hl hg
  obtain rfl := hF.eq hF2
  by_cases h0 : r = 0
  · subst h0
    obtain ⟨hall, hn0, hn1⟩ := hF.zero
    by_cases hN : l.length ≤ 4096
    · have hT : TabP n l := ⟨hn0, hn1, hN, hall⟩
      obtain ⟨m, rfl, hm, _⟩ := nat_of hT
      have ha := RowsAre.of hT hg
      rw [Int.toNat_natCast] at ha
      have hle : ∀ x ∈ l, x.f1.length ≤ 1000000 := fun x hx => by
        obtain ⟨i, hi, rfl⟩ := List.getElem_of_mem hx
        have := (ha.2 i hi).2.len
        omega
      obtain ⟨K3, h3⟩ := refMake_l0 (n := (m : Int)) hN hg hle l.length 0 (by omega)
      refine ⟨_, _, _, MakeTable_rows hN hm ha, ⟨K1 + K2 + K3 + 2, fun k hk => ?_⟩, ha.same hN hm _⟩
      obtain ⟨k, rfl⟩ : ∃ j, k = j + 2 := ⟨k - 2, by omega⟩
      have y2 := h2 (k + 2) (by omega)
      have y3 := h3 k (by omega)
      dsimp only at y2 y3
      show sloperef3_MakeTable.f (k + 2) (m : Int) l = _
      unfold sloperef3_MakeTable.f
      rw [y2, Option.bind_some, if_pos rfl, decide_eq_false (by omega), sloperef3_MakeTable.j0, if_neg (by decide), sloperef3_MakeTable.j1, if_pos rfl]
      exact y3
    · refine ⟨0, [], 1, ⟨K1, fun k hk => ?_⟩, ⟨K2 + 2, fun k hk => ?_⟩, same_nil 0⟩
      · have y1 := h1 k (by omega)
        dsimp only at y1
        show bitset_MakeTable.f k n l = _
        unfold bitset_MakeTable.f
        rw [if_pos ⟨hg, hl⟩, y1, Option.bind_some, if_pos rfl, if_pos (by omega)]
      · obtain ⟨k, rfl⟩ : ∃ j, k = j + 2 := ⟨k - 2, by omega⟩
        have y2 := h2 (k + 2) (by omega)
        dsimp only at y2
        show sloperef3_MakeTable.f (k + 2) n l = _
        unfold sloperef3_MakeTable.f
        rw [y2, Option.bind_some, if_pos rfl, decide_eq_true (by omega), sloperef3_MakeTable.j0, if_pos rfl, sloperef3_MakeTable.j1, if_neg (by decide)]
  · refine ⟨0, [], r, ⟨K1, fun k hk => ?_⟩, ⟨K2 + 2, fun k hk => ?_⟩, same_nil 0⟩
    · have y1 := h1 k (by omega)
      dsimp only at y1
      show bitset_MakeTable.f k n l = _
      unfold bitset_MakeTable.f
      rw [if_pos ⟨hg, hl⟩, y1, Option.bind_some, if_neg h0]
    · obtain ⟨k, rfl⟩ : ∃ j, k = j + 2 := ⟨k - 2, by omega⟩
      have y2 := h2 (k + 2) (by omega)
      dsimp only at y2
      show sloperef3_MakeTable.f (k + 2) n l = _
      unfold sloperef3_MakeTable.f
      rw [y2, Option.bind_some, if_neg h0, sloperef3_MakeTable.j0, if_neg (by decide), sloperef3_MakeTable.j1, if_neg h0]
end Go.Proofs.YtjmkhdhffmlhiaaDoor.PAll
end
section
namespace Go.Proofs.YtjmkhdhffmlhiaaDoor.PAll
set_option linter.unusedVariables false
set_option linter.unusedSimpArgs false
open Go.RowKit Go.Shelf Go.Proofs.YtjmkhdhffmlhiaaDoorW.PrintWords Go.Proofs.YtjmkhdhffmlhiaaDoorW.PrintLast Go.Proofs.YtjmkhdhffmlhiaaDoorW.PrintMore
attribute [local go_sem] Oper.semAt_some
set_option maxHeartbeats 8000000 in
set_option maxRecDepth 100000 in
theorem Firsts_no (kf : Nat) (n : Int) (A0 : Option Addr) (c0 : Nat) (l : List S24) (w : World) (hr0 : Kd.C k24 w A0 l.length l) (hc0 : l.length ≤ c0) (hM : bitset_MayTable.f kf n l = some false) :
    Calls Tryd.prog 51 #[.agg #[.int .i64 n, .slice A0 l.length c0]] w fun e w' => ∃ v, e = .returned (.tuple #[v, .int .i64 61]) ∧ Kd.R (Kd.int .i64) 3 w' w.heap.size (fun _ => True) v [] ∧ Below w.heap.size w w' := by
  have hu56 := Tryd.underlying56
  have HC := Aside0.mk hr0
  have HM := Aside0.mk hM
  clear hr0 hM
  have KA := Aside0.mk (blk_new w (.cells #[.int .i64 n, .slice A0 l.length c0] 56 (0, 0)))
  have HB := Aside0.mk (below_alloc (Below.refl w.heap.size w) (.cells #[.int .i64 n, .slice A0 l.length c0] 56 (0, 0)))
  refine (callsIn_wide (n := 6)).1 ?_
  refine callsIn_of_wp Tryd.func51 rfl trivial ?_ rfl
  simp only [Tryd.ntmps51, List.size_toArray, List.length_cons, List.length_nil, Nat.reduceAdd, Nat.reduceSub, Array.replicate_succ, Array.replicate_zero, List.push_toArray, List.append_toArray, List.nil_append, List.cons_append]
  have q0 := (blk_cell KA.out 0).trans rfl; have q1 := (blk_cell KA.out 1).trans rfl
  gi_wp2_with fail
  refine ⟨trivial, ?_⟩; gi_at_call 85
  refine (callsIn_wide.2 (bitset_MayTable.calls kf n _ _ l false _ (Kd.C_below HC.out HB.out) hc0 HM.out)).mono ?_
  rintro e w1 ⟨rfl, hb⟩
  have hBf := below_step HB.out hb
  gi_wp2_with fail
  refine bodyPost_ret (v := .tuple #[.slice none 0 0, .int .i64 61]) ?_ rfl ⟨_, rfl, Kd.R_nil _ _ _ _ _, hBf⟩
  simp [results, Tryd.f51, go_sem]
theorem Firsts_alike (n : Int) (l : List S24) (hl : l.length ≤ 9223372036854775807) (hg : Goods l) : ∃ (r : List Int) (e : Int), r.length ≤ 1000000 ∧ Ev (fun k => sloperef3_Firsts.f k n l) (r, e) ∧
    ∀ (A0 : Option Addr) (c0 : Nat) (w : World), Kd.C k24 w A0 l.length l → l.length ≤ c0 → Calls Tryd.prog 51 #[.agg #[.int .i64 n, .slice A0 l.length c0]] w fun x w' => ∃ v, x = .returned (.tuple #[v, .int .i64 e]) ∧ Kd.R (Kd.int .i64) 3 w' w.heap.size (fun _ => True) v r ∧ Below w.heap.size w w' := by
  obtain ⟨K, hM⟩ := MayTable_eq n l hl hg
  have hM1 := hM K (Nat.le_refl _)
  dsimp only at hM1
  by_cases hT : TabP n l
  · obtain ⟨m, rfl, hm, hN⟩ := nat_of hT
    have ha := RowsAre.of hT hg
    rw [Int.toNat_natCast] at ha
    rw [tabp_true.2 hT] at hM1
    refine ⟨firstsOf l, 0, by simp [firstsOf, bsOf]; omega, refFirsts_rows hm ha hN, fun A0 c0 w hr0 hc0 => Firsts_yes K (m : Int) A0 c0 l w hr0 hc0 hN hM1 (fun s hs => ?_)⟩
    obtain ⟨i, hi, rfl⟩ := List.getElem_of_mem hs
    have := (ha.2 i hi).2
    exact ⟨this.wds, by have := this.len; omega⟩
  · obtain ⟨K1, h1⟩ := rMayTable_eq n l hl hg
    rw [tabp_false.2 hT] at hM1
    refine ⟨[], 61, by simp, ⟨K1, fun k hk => ?_⟩, fun A0 c0 w hr0 hc0 => Firsts_no K n A0 c0 l w hr0 hc0 hM1⟩
    have y1 := h1 k (by omega)
    dsimp only at y1
    show sloperef3_Firsts.f k n l = _
    unfold sloperef3_Firsts.f
    rw [y1, tabp_false.2 hT, Option.bind_some, if_neg (by decide)]
end Go.Proofs.YtjmkhdhffmlhiaaDoor.PAll
end
section
namespace Go.Proofs.YtjmkhdhffmlhiaaDoor.PAll
open Go.RowKit Go.Proofs.YtjmkhdhffmlhiaaDoorW.PrintWords Go.Proofs.YtjmkhdhffmlhiaaDoorW.PrintLast Go.Proofs.YtjmkhdhffmlhiaaDoorW.PrintMore
attribute [local go_sem] max2_int min2_int max_two min_two max_three min_three max_four min_four w64_u8 w64_mod256   -- for this text's walks alone
set_option linter.unusedVariables false
set_option linter.unusedSimpArgs false
def slopelaw3_sameInts.l0 : Nat → List Int → List Int → Int → Option (Bool)
  | 0, _, _, _ => none
  | k + 1, x0, x1, x5 => if x5 < (x0.length : Int) then (if 0 ≤ x5 then (if x5 < (x1.length : Int) then (if (rd x0 x5) = (rd x1 x5) then (slopelaw3_sameInts.l0 k x0 x1 (wrap64 (x5 + 1))) else (some false)) else (none)) else (none)) else (some true)
def slopelaw3_sameInts.f (k : Nat) (l0 : List Int) (l1 : List Int) : Option (Bool) := if (l0.length : Int) = (l1.length : Int) then (slopelaw3_sameInts.l0 k l0 l1 0) else (some false)
set_option maxHeartbeats 8000000 in
set_option maxRecDepth 100000 in
theorem slopelaw3_sameInts.calls (k : Nat) (A0 : Option Addr) (c0 : Nat) (l0 : List Int) (A1 : Option Addr) (c1 : Nat) (l1 : List Int) (r : Bool) (w : World) (hr0 : Kd.C (Kd.int .i64) w A0 l0.length l0) (hc0 : l0.length ≤ c0) (hr1 : Kd.C (Kd.int .i64) w A1 l1.length l1) (hc1 : l1.length ≤ c1) (h : slopelaw3_sameInts.f k l0 l1 = some r) :
    Calls Tryd.prog 38 #[.slice A0 l0.length c0, .slice A1 l1.length c1] w fun e w' => e = .returned (.bool r) ∧ Drawn0 w w' := by
  have HR0 := Aside0.mk hr0
  have HC0 := Aside0.mk hc0
  clear hr0 hc0
  have HR1 := Aside0.mk hr1
  have HC1 := Aside0.mk hc1
  clear hr1 hc1
  have H : (if (l0.length : Int) = (l1.length : Int) then (slopelaw3_sameInts.l0 k l0 l1 0) else (some false)) = some r := h
  clear h
  by_cases c3 : (l0.length : Int) = (l1.length : Int)
  · rw [if_pos c3] at H
    have c3b0 : ((l0.length : Int) == (l1.length : Int)) = true := beq_iff_eq.mpr c3
    have c3b1 : ((l0.length : Int) != (l1.length : Int)) = false := bne_eq_false_iff_eq.mpr c3
    have c3b2 : (l0.length == l1.length) = true := by first | simpa using c3 | (simp at c3 ⊢; omega)
    clear c3
    have H' := Aside0.mk H
    clear H
    go_enter Tryd.func38, Tryd.ntmps38
    go_wp2
    repeat (go_quiet (fail); try go_wp2)
    go_loopg [5] k (fun kq v5 w' => ∃ (x5_1 : Int), v5 = .int .i64 x5_1 ∧ Aside0 (slopelaw3_sameInts.l0 kq l0 l1 x5_1 = some r) ∧ Aside0 (kq ≤ k) ∧ Drawn0 w w')
    case atStart => exact ⟨(0), (by first | rfl | (simp; done) | (simp [*]; done)), H', ⟨Nat.le_refl _⟩, by repeat (first | exact Drawn0.refl _ | apply Drawn0.step)⟩
    case round =>
      clear H'
      try clear c1
      try clear p2
      try clear c3
      try clear c3b0
      try clear c3b1
      try clear c3b2
      obtain ⟨x5_1, rfl, HA, HK1, ⟨m1, rfl⟩⟩ := hrel
      cases gk with
      | zero => exact absurd HA.out (by simp [slopelaw3_sameInts.l0])
      | succ k1 =>
        have H := HA.out
        clear HA
        simp only [slopelaw3_sameInts.l0] at H
        by_cases c4 : x5_1 < (l0.length : Int)
        · rw [if_pos c4] at H
          have c4b0 : decide (x5_1 < (l0.length : Int)) = true := decide_eq_true c4
          clear c4
          by_cases c5 : 0 ≤ x5_1
          · rw [if_pos c5] at H
            have c5b0 : decide (0 ≤ x5_1) = true := decide_eq_true c5
            clear c5
            by_cases c6 : x5_1 < (l1.length : Int)
            · rw [if_pos c6] at H
              have c6b0 : decide (x5_1 < (l1.length : Int)) = true := decide_eq_true c6
              clear c6
              by_cases c7 : (rd l0 x5_1) = (rd l1 x5_1)
              · rw [if_pos c7] at H
                have c7b0 : ((rd l0 x5_1) == (rd l1 x5_1)) = true := beq_iff_eq.mpr c7
                have c7b1 : ((rd l0 x5_1) != (rd l1 x5_1)) = false := bne_eq_false_iff_eq.mpr c7
                clear c7
                have H' := Aside0.mk H
                clear H
                have p101 : 0 ≤ (x5_1 : Int) := of_decide_eq_true (by first | (with_reducible assumption) | assumption)
                have q101 : x5_1 < (l0.length : Int) := of_decide_eq_true (by first | (with_reducible assumption) | assumption)
                obtain ⟨ad101, e101, hx101_0⟩ := Kd.at_int HR0.out x5_1 p101 q101
                cases e101
                replace p101 := eq_true p101
                replace q101 := eq_true q101
                have p102 : 0 ≤ (x5_1 : Int) := of_decide_eq_true (by first | (with_reducible assumption) | assumption)
                have q102 : x5_1 < (l1.length : Int) := of_decide_eq_true (by first | (with_reducible assumption) | assumption)
                obtain ⟨ad102, e102, hx102_0⟩ := Kd.at_int HR1.out x5_1 p102 q102
                cases e102
                replace p102 := eq_true p102
                replace q102 := eq_true q102
                go_wp2
                repeat (go_quiet (fail); try go_wp2)
                go_roundg k1
                case measure => have := HK1.out; omega
                case rel => exact ⟨(wrap64 (x5_1 + 1)), (by first | rfl | (simp; done) | (simp [*]; done)), H', ⟨by have := HK1.out; omega⟩, by repeat (first | exact Drawn0.refl _ | apply Drawn0.step)⟩
              · rw [if_neg c7] at H
                have c7b0 : ((rd l0 x5_1) == (rd l1 x5_1)) = false := beq_eq_false_iff_ne.mpr c7
                have c7b1 : ((rd l0 x5_1) != (rd l1 x5_1)) = true := bne_iff_ne.mpr c7
                obtain rfl := Option.some.inj H
                have p101 : 0 ≤ (x5_1 : Int) := of_decide_eq_true (by first | (with_reducible assumption) | assumption)
                have q101 : x5_1 < (l0.length : Int) := of_decide_eq_true (by first | (with_reducible assumption) | assumption)
                obtain ⟨ad101, e101, hx101_0⟩ := Kd.at_int HR0.out x5_1 p101 q101
                cases e101
                replace p101 := eq_true p101
                replace q101 := eq_true q101
                have p102 : 0 ≤ (x5_1 : Int) := of_decide_eq_true (by first | (with_reducible assumption) | assumption)
                have q102 : x5_1 < (l1.length : Int) := of_decide_eq_true (by first | (with_reducible assumption) | assumption)
                obtain ⟨ad102, e102, hx102_0⟩ := Kd.at_int HR1.out x5_1 p102 q102
                cases e102
                replace p102 := eq_true p102
                replace q102 := eq_true q102
                go_wp2
                repeat (go_quiet (fail); try go_wp2)
                go_ret
                exact ⟨by first | rfl | (simp; done) | (simp [*]; done), by repeat (first | exact Drawn0.refl _ | apply Drawn0.step)⟩
            · rw [if_neg c6] at H
              exact absurd H (by simp)
          · rw [if_neg c5] at H
            exact absurd H (by simp)
        · rw [if_neg c4] at H
          have c4b0 : decide (x5_1 < (l0.length : Int)) = false := decide_eq_false c4
          clear c4
          obtain rfl := Option.some.inj H
          go_wp2
          repeat (go_quiet (fail); try go_wp2)
          go_ret
          exact ⟨by first | rfl | (simp; done) | (simp [*]; done), by repeat (first | exact Drawn0.refl _ | apply Drawn0.step)⟩
  · rw [if_neg c3] at H
    have c3b0 : ((l0.length : Int) == (l1.length : Int)) = false := beq_eq_false_iff_ne.mpr c3
    have c3b1 : ((l0.length : Int) != (l1.length : Int)) = true := bne_iff_ne.mpr c3
    have c3b2 : (l0.length == l1.length) = false := by first | simpa using c3 | (simp at c3 ⊢; omega)
    obtain rfl := Option.some.inj H
    go_enter Tryd.func38, Tryd.ntmps38
    go_wp2
    repeat (go_quiet (fail); try go_wp2)
    go_ret
    exact ⟨by first | rfl | (simp; done) | (simp [*]; done), by repeat (first | exact Drawn0.refl _ | apply Drawn0.step)⟩
end Go.Proofs.YtjmkhdhffmlhiaaDoor.PAll
end
section
namespace Go.Proofs.YtjmkhdhffmlhiaaDoor.PAll
open Go.RowKit Go.Proofs.YtjmkhdhffmlhiaaDoorW.PrintWords Go.Proofs.YtjmkhdhffmlhiaaDoorW.PrintLast Go.Proofs.YtjmkhdhffmlhiaaDoorW.PrintMore
theorem cut_hm (t e : TypeId) {i : TypeInfo} (ht : Tryd.prog.underlying t = some (.slice e)) (hi : Tryd.prog.info? e = some i) (g n cap m : Nat) (hm : m ≤ cap) :
    ∀ W : World, (Instr.slice t (.slice (some ⟨g, 0, none⟩) n cap) none (some (.int .i64 (m : Int))) (some (.int .i64 (m : Int)))).run Tryd.prog W = .ok (.slice (some ⟨g, 0, none⟩) m m) W := by
  intro W
  have hel : Tryd.prog.elem t = e := by simp [Program.elem, ht]
  have hu : Tryd.prog.underlying t = some (.slice (Tryd.prog.elem t)) := by rw [hel]; exact ht
  rw [run_slice_hm W t (some ⟨g, 0, none⟩) n cap hu .i64 .i64 (m : Int) (m : Int) (by omega) (by omega) (by omega), hel]
  simp [sizeOf, typeInfo, hi, sliced, Result.andThen, Addr.add]
theorem same_ints (l : List Int) (hb : l.length ≤ 9223372036854775807) : ∃ k, slopelaw3_sameInts.f k l l = some true := by
  have key : ∀ d i : Nat, i + d = l.length → ∃ k, slopelaw3_sameInts.l0 k l l (i : Int) = some true := by
    intro d
    induction d with
    | zero => intro i h; exact ⟨1, by simp only [slopelaw3_sameInts.l0]; rw [if_neg (by omega)]⟩
    | succ d ih =>
      intro i h
      obtain ⟨k, hk⟩ := ih (i + 1) (by omega)
      refine ⟨k + 1, ?_⟩
      simp only [slopelaw3_sameInts.l0]
      rw [if_pos (by omega), if_pos (by omega), if_pos (by omega)]
      rw [show wrap64 ((i : Int) + 1) = ((i + 1 : Nat) : Int) by unfold wrap64; omega]
      simpa using hk
  obtain ⟨k, hk⟩ := key l.length 0 (by omega)
  exact ⟨k, by unfold slopelaw3_sameInts.f; rw [if_pos rfl]; exact hk⟩
end Go.Proofs.YtjmkhdhffmlhiaaDoor.PAll
end
section
namespace Go.Proofs.YtjmkhdhffmlhiaaDoor.PAll
open Go.RowKit Go.Proofs.YtjmkhdhffmlhiaaDoorW.PrintWords Go.Proofs.YtjmkhdhffmlhiaaDoorW.PrintLast Go.Proofs.YtjmkhdhffmlhiaaDoorW.PrintMore
def marked {α : Type} (e : Nat) (d : Kd α) (m : α) : Kd (List α) where
  sz := 1
  E := e :: d.E
  K := fun w xs cs => ∃ g c, cs = [.slice (some ⟨g, 0, none⟩) xs.length c] ∧ (xs ++ [m]).length ≤ c ∧ d.C w (some ⟨g, 0, none⟩) (xs ++ [m]).length (xs ++ [m])
  M := fun w base ok xs cs => ∃ g c, cs = [.slice (some ⟨g, 0, none⟩) xs.length c] ∧ d.R e w base ok (.slice (some ⟨g, 0, none⟩) (xs ++ [m]).length c) (xs ++ [m])
  K_len := by
    rintro w x cs ⟨A, c, rfl, _⟩
    rfl
  K_one := by
    rintro w x cs ⟨A, c, rfl, _⟩ u hu
    rw [List.mem_singleton.1 hu]
    rfl
  K_below := by
    rintro w w1 x cs hb ⟨A, c, rfl, hl, hr⟩
    exact ⟨A, c, rfl, hl, Kd.C_below hr hb⟩
  K_of_M := by
    rintro w base ok x cs ⟨A, c, rfl, h⟩
    have h2 := Kd.R_reads' h
    exact ⟨A, c, rfl, h2.2.1, h2.2.2⟩
  M_mono := by
    rintro w base ok ok' x cs hok ⟨A, c, rfl, h⟩
    exact ⟨A, c, rfl, Kd.R_mono h hok⟩
  M_bound := by
    rintro w base ok x cs ⟨A, c, rfl, h⟩
    exact ⟨A, c, rfl, Kd.R_bound h⟩
  M_move := by
    rintro w w1 base ok x cs hm ⟨A, c, rfl, h⟩
    exact ⟨A, c, rfl, Kd.R_move h hm⟩
  M_lower := by
    rintro w base base' ok x cs hb ⟨A, c, rfl, h⟩
    exact ⟨A, c, rfl, Kd.R_lower h hb⟩
def alt {α : Type} (a b : Kd α) (hs : a.sz = b.sz) : Kd (Bool × α) where
  sz := a.sz
  E := a.E ++ b.E
  K := fun w x cs => (x.1 = true ∧ a.K w x.2 cs) ∨ (x.1 = false ∧ b.K w x.2 cs)
  M := fun w base ok x cs => (x.1 = true ∧ a.M w base ok x.2 cs) ∨ (x.1 = false ∧ b.M w base ok x.2 cs)
  K_len := by
    rintro w x cs (⟨_, h⟩ | ⟨_, h⟩)
    · exact a.K_len h
    · exact (b.K_len h).trans hs.symm
  K_one := by
    rintro w x cs (⟨_, h⟩ | ⟨_, h⟩)
    · exact a.K_one h
    · exact b.K_one h
  K_below := by
    rintro w w1 x cs hb (⟨e, h⟩ | ⟨e, h⟩)
    · exact .inl ⟨e, a.K_below hb h⟩
    · exact .inr ⟨e, b.K_below hb h⟩
  K_of_M := by
    rintro w base ok x cs (⟨e, h⟩ | ⟨e, h⟩)
    · exact .inl ⟨e, a.K_of_M h⟩
    · exact .inr ⟨e, b.K_of_M h⟩
  M_mono := by
    rintro w base ok ok' x cs hok (⟨e, h⟩ | ⟨e, h⟩)
    · exact .inl ⟨e, a.M_mono hok h⟩
    · exact .inr ⟨e, b.M_mono hok h⟩
  M_bound := by
    rintro w base ok x cs (⟨e, h⟩ | ⟨e, h⟩)
    · refine .inl ⟨e, a.M_mono ?_ (a.M_bound h)⟩
      rintro k ⟨h2, h3, h4, q, hq, hc⟩
      exact ⟨h2, h3, h4, q, List.mem_append_left _ hq, hc⟩
    · refine .inr ⟨e, b.M_mono ?_ (b.M_bound h)⟩
      rintro k ⟨h2, h3, h4, q, hq, hc⟩
      exact ⟨h2, h3, h4, q, List.mem_append_right _ hq, hc⟩
  M_move := by
    rintro w w1 base ok x cs hm (⟨e, h⟩ | ⟨e, h⟩)
    · exact .inl ⟨e, a.M_move hm h⟩
    · exact .inr ⟨e, b.M_move hm h⟩
  M_lower := by
    rintro w base base' ok x cs hb (⟨e, h⟩ | ⟨e, h⟩)
    · exact .inl ⟨e, a.M_lower hb h⟩
    · exact .inr ⟨e, b.M_lower hb h⟩
theorem two_blocks {w w1 : World} {o1 o2 : Obj} (hg : ((w.alloc o1).alloc o2).grownBy w1 (Value.slice none 0 0).ownBlock) : w1.heap[w.heap.size]? = some o1 ∧ w1.heap[w.heap.size + 1]? = some o2 := by
  have e1 := blk_alloc (blk_new w o1) o2
  have e2 : ((w.alloc o1).alloc o2).heap[w.heap.size + 1]? = some o2 := by
    have := blk_new (w.alloc o1) o2
    simpa using this
  exact ⟨(hg.block _ (by simp; omega) (by simp [Value.ownBlock])).trans e1, (hg.block _ (by simp) (by simp [Value.ownBlock])).trans e2⟩
def theMark : Int := 8608480567731124087
theorem mark_ys {m : Int} {l ys : List Int} (h : ys = l ++ [m]) (hm : theMark = m) : l ++ [8608480567731124087] = ys := by rw [h, ← hm]; rfl
theorem pos_ys {m : Int} {l ys : List Int} (h : ys = l ++ [m]) : 0 < ys.length := by rw [h]; simp
theorem R_not_blk {W : World} {base g : Nat} {ok : Nat → Prop} {v : Value} {xs : List Int} {cs : Array Value} (h : Kd.R (Kd.int .u64) 87 W base ok v xs) (hb : W.heap[g]? = some (.cells cs 24 (0, 0))) (e : some g = v.ownBlock) : False :=
  Kd.R_ne h hb (by decide) e
set_option maxHeartbeats 4000000 in
set_option maxRecDepth 100000 in
theorem twin_marked (n0 : Int) (A0 : Option Addr) (c0 : Nat) (l0 : List Int) (w : World) (hr0 : Kd.C (Kd.int .u64) w A0 l0.length l0) (hc0 : l0.length ≤ c0) (hn : l0.length * 8 ≤ 140737488351232) :
    Calls Tryd.prog 14 #[.agg #[.int .i64 n0, .slice A0 l0.length c0]] w fun e w' => ∃ g cap : Nat, e = .returned (.agg #[.int .i64 n0, .slice (some ⟨g, 0, none⟩) l0.length cap]) ∧ Kd.R (Kd.int .u64) 87 w' w.heap.size (fun _ => True) (.slice (some ⟨g, 0, none⟩) (l0 ++ [theMark]).length cap) (l0 ++ [theMark]) ∧ Below w.heap.size w w' := by
  have hu26 := Tryd.underlying24
  have HR0 := Aside0.mk hr0
  have HC0 := Aside0.mk hc0
  clear hr0 hc0
  have hn1 : l0.length + 1 ≤ 17592186044416 := by omega
  obtain ⟨ys, hys⟩ : ∃ ys, ys = l0 ++ [theMark] := ⟨_, rfl⟩
  have hyl : l0.length ≤ ys.length := by rw [hys]; simp
  have HY := Aside0.mk hys
  rw [← hys]
  clear hys
  obtain ⟨m, hm⟩ : ∃ m, theMark = m := ⟨_, rfl⟩
  rw [hm] at HY
  go_enter Tryd.func14, Tryd.ntmps14
  go_wp2_with (first
    | ((with_reducible refine gate_builtin (b := .append) (xs := #[.tmp 4, .tmp 6]) rfl ?_); at_builtin
       refine Kd.R_append_rows (Kd.int .u64) (w0 := w) w.heap.size rfl (.tmp 4) (.tmp 6) 22 87 (.int .u64 0) 8 rfl Tryd.underlying22 info87 rfl (by decide) (by omega) (.slice none 0 0) ([] : List Int) l0 _ _ _ (fun _ => True) (fun _ => False) rfl rfl ?aO ?aR (fun _ _ h => h) (fun _ h => h.elim) ?aF ?aB ?aS ?aL ?_
       (case aR => exact Kd.C_alloc (Kd.C_alloc HR0.out _) _)
       (case aB => exact below_alloc (below_alloc (Below.refl _ _) _) _)
       (case aF => exact (fun _ _ => trivial))
       (case aO => exact (Kd.R_nil _ _ _ _ (fun _ => True)))
       (case aS => exact (below_alloc (below_alloc (Below.refl _ _) _) _).size)
       (case aL => simp only [List.length_nil]; omega)
       intro v1 w1 ho hb hg hat
       rw [List.nil_append] at ho
       have HO := Aside0.mk ho
       have HB := Aside0.mk hb
       obtain ⟨b1, b2⟩ := two_blocks hg
       have B1 := Aside0.mk b1
       have B2 := Aside0.mk b2
       clear ho hb hg hat b1 b2)
    | ((with_reducible refine gate_builtin (b := .append) (xs := #[.tmp 8, .tmp 9]) rfl ?_); at_builtin
       refine Kd.R_append (Kd.int .u64) (w0 := w) w.heap.size rfl (.tmp 8) (.tmp 9) 22 87 (.int .u64 0) 8 rfl Tryd.underlying22 info87 rfl (by decide) (by omega) v1 l0 8608480567731124087 [.int .u64 8608480567731124087] (fun _ => True) (fun _ => False) rfl rfl ?aP (fun _ hk => hk.elim) ?aF ?aO ?aB ?aS ?aL ?_
       (case aP => exact rfl)
       (case aF => exact (fun _ _ => trivial))
       (case aO => exact HO.out)
       (case aB => exact HB.out)
       (case aS => exact HB.out.size)
       (case aL => omega)
       intro v2 w2 ho hb hg hat
       have e9 := mark_ys HY.out hm
       rw [e9] at ho
       obtain ⟨g, cap, eg, hgb, hgl, cells, hcells⟩ := Kd.R_form ho (pos_ys HY.out)
       have b1 := (hg.block w.heap.size (blk_lt B1.out) (fun e => R_not_blk HO.out B1.out e)).trans B1.out
       have b2 := (hg.block (w.heap.size + 1) (blk_lt B2.out) (fun e => R_not_blk HO.out B2.out e)).trans B2.out
       subst eg
       obtain ⟨i0, hi0, _, _, _⟩ := info_parts info87
       have hcut := cut_to (P := Tryd.prog) 22 87 .i64 Tryd.underlying22 hi0 (some ⟨g, 0, none⟩) ys.length cap (l0.length : Int) (by omega) (by omega) (Kd.R_reads' ho).2.1
       rw [Int.toNat_natCast] at hcut
       have HO2 := Aside0.mk ho
       have HB2 := Aside0.mk hb
       have BB1 := Aside0.mk b1
       have BB2 := Aside0.mk b2
       have q0 := cell_of_row w2 w.heap.size 0 _ _ _ b1
       have q1 := cell_of_row w2 w.heap.size 1 _ _ _ b1
       have f0 := blk_frozen b2 0
       have f1 := blk_frozen b2 1
       have g0 := cell_of_row w2 (w.heap.size + 1) 0 _ _ _ b2
       have g1 := cell_of_row w2 (w.heap.size + 1) 1 _ _ _ b2
       simp only [List.getElem?_toArray, List.getElem?_cons_zero, List.getElem?_cons_succ] at q0 q1 g0 g1
       clear hi0 ho hb hg hat e9 hcells hgb hgl b1 b2))
  go_still_tail 8, (by kernel_rfl)
  go_wp2
  refine bodyPost_ret (results_cell_row rfl _ _ (w.heap.size + 1) 24 #[.int .i64 n0, .slice (some ⟨g, 0, none⟩) l0.length cap] (0, 0) _ rfl ?_ Tryd.underlying24 rfl (by kernel_rfl)) rfl ?_
  · refine blk_put (cs := #[.int .i64 n0, .slice none 0 0]) ?_ 1 _ rfl
    refine blk_put (cs := #[.int .i64 0, .slice none 0 0]) ?_ 0 _ rfl
    exact BB2.out
  · refine ⟨g, cap, rfl, ?_, ?_⟩
    · exact Kd.R_mono (Kd.R_far (p := ⟨w.heap.size + 1, 1, none⟩) (Kd.R_far (p := ⟨w.heap.size + 1, 0, none⟩) (Kd.R_drew (Kd.R_types HO2.out BB2.out (by decide))) (fun _ hk => hk.2) _) (fun _ hk => hk.2) _) (fun _ hk => trivial)
    · exact ((below_drew HB2.out).setCell (by simp) _).setCell (by simp) _
end Go.Proofs.YtjmkhdhffmlhiaaDoor.PAll
end
section
namespace Go.Proofs.YtjmkhdhffmlhiaaDoor.PAll
open Go.RowKit Go.Proofs.YtjmkhdhffmlhiaaDoorW.PrintWords Go.Proofs.YtjmkhdhffmlhiaaDoorW.PrintLast Go.Proofs.YtjmkhdhffmlhiaaDoorW.PrintMore
end Go.Proofs.YtjmkhdhffmlhiaaDoor.PAll
end
section
namespace Go.Proofs.YtjmkhdhffmlhiaaDoor.PAll
set_option linter.unusedVariables false
open Go.RowKit Go.Proofs.YtjmkhdhffmlhiaaDoorW.PrintWords Go.Proofs.YtjmkhdhffmlhiaaDoorW.PrintLast Go.Proofs.YtjmkhdhffmlhiaaDoorW.PrintMore
def mk26 : Kd S24 := Kd.iso (Kd.pair (Kd.int .i64) (marked 87 (Kd.int .u64) theMark)) (fun x : S24 => (x.f0, x.f1))
def tw26 : Kd (Bool × S24) := alt mk26 k24 rfl
def yes26 (l : List S24) : List (Bool × S24) := l.map (fun x => (true, x))
def tws26 (l : List S24) : List (Bool × S24) := yes26 l ++ [(false, ⟨-7, []⟩)]
theorem yes26_next {l : List S24} {i : Nat} (h : i < l.length) : yes26 (l.take i) ++ [(true, rd_T24 l (i : Int))] = yes26 (l.take (i + 1)) := by
  unfold yes26 rd_T24
  rw [List.take_succ_eq_append_getElem h, List.map_append]
  simp [List.getD_eq_getElem?_getD, List.getElem?_eq_getElem h]
theorem tws26_len (l : List S24) : (tws26 l).length = l.length + 1 := by simp [tws26, yes26]
theorem yes26_len (l : List S24) (i : Nat) : (yes26 (l.take i)).length ≤ l.length := by simp only [yes26, List.length_map, List.length_take]; omega
set_option maxHeartbeats 4000000 in
set_option maxRecDepth 100000 in
theorem twins_marked (A0 : Option Addr) (c0 : Nat) (l0 : List S24) (w : World) (hr0 : Kd.C k24 w A0 l0.length l0) (hc0 : l0.length ≤ c0) (hn : l0.length * 32 ≤ 140737488351232) (he : ∀ x ∈ l0, x.f1.length * 8 ≤ 140737488351232) :
    Calls Tryd.prog 47 #[.slice A0 l0.length c0] w fun e w' => ∃ g cap : Nat, e = .returned (.slice (some ⟨g, 0, none⟩) l0.length cap) ∧ Kd.R tw26 24 w' w.heap.size (fun _ => True) (.slice (some ⟨g, 0, none⟩) (tws26 l0).length cap) (tws26 l0) ∧ Below w.heap.size w w' := by
  have hu26 := Tryd.underlying24
  have HR0 := Aside0.mk hr0
  have HE := Aside0.mk he
  have HB := Aside0.mk (Below.refl w.heap.size w)
  clear hr0 he
  obtain ⟨ys, hys⟩ : ∃ ys, ys = tws26 l0 := ⟨_, rfl⟩
  have hyl : l0.length + 1 = ys.length := by rw [hys, tws26_len]
  have HY := Aside0.mk hys
  rw [← hys]
  clear hys
  go_enter Tryd.func47, Tryd.ntmps47
  go_wp2_with fail
  go_loopg [3, 4] (l0.length) (fun gj v3 v4 w2 => ∃ i : Nat, v4 = .int .i64 i ∧ Aside0 (gj + i = l0.length) ∧ Aside0 (Kd.R tw26 24 w2 w.heap.size (fun _ => True) v3 (yes26 (l0.take i))) ∧ Aside0 (Below w.heap.size w w2))
  case atStart => exact ⟨0, rfl, ⟨by simp⟩, ⟨Kd.R_nil _ _ _ _ _⟩, HB⟩
  case round =>
    clear HB
    obtain ⟨i, rfl, hg2, HO, HB⟩ := hrel
    by_cases hi : i < l0.length
    · obtain ⟨gj_, rfl⟩ : ∃ m, gk = m + 1 := ⟨gk - 1, by have := hg2.out; omega⟩
      have hd : decide (i < l0.length) = true := decide_eq_true hi
      obtain ⟨ad, A1, c1, e1, hx0, hx1, hl1, hi1⟩ := at_T24 HR0.out (i : Int) (by omega) (by omega)
      cases e1
      replace hx0 := (HB.out.cell (World.block_lt_of_cell? w _ hx0)).trans hx0
      replace hx1 := (HB.out.cell (World.block_lt_of_cell? w _ hx1)).trans hx1
      rw [Int.toNat_natCast] at hx0 hx1
      have hmem : (rd_T24 l0 (i : Int)).f1.length * 8 ≤ 140737488351232 := HE.out _ (by
        unfold rd_T24
        rw [Int.toNat_natCast, List.getD_eq_getElem?_getD, List.getElem?_eq_getElem hi]
        exact List.getElem_mem hi)
      have HNX := Aside0.mk (yes26_next hi)
      have HYL := Aside0.mk (yes26_len l0 i)
      have HL1 := Aside0.mk hl1
      have HI1 := Aside0.mk hi1
      obtain ⟨x, hx⟩ : ∃ x, rd_T24 l0 (i : Int) = x := ⟨_, rfl⟩
      rw [hx] at hx0 hx1 hmem HNX HL1 HI1
      have HMEM := Aside0.mk hmem
      clear hl1 hi1 hx hmem
      go_wp2_with (first
        | ((with_reducible refine gate_callee (f := 14) rfl ?_); refine goesL_ (some 16) rfl rfl Tryd.func14 (by kernel_rfl) rfl #[.agg #[.int .i64 x.f0, .slice A1 x.f1.length c1]] rfl (by (try simp only [List.map_toArray, List.map_cons, List.map_nil]); first | done | rfl) ?_
           (with_reducible refine (twin_marked x.f0 A1 c1 x.f1 _ ?s1 HL1.out HMEM.out).mono ?_)
           (case s1 => exact Kd.C_below HI1.out HB.out)
           rintro e w1 ⟨g, cap, rfl, ho, hb⟩
           refine ⟨_, rfl, ?_⟩
           have HT := Aside0.mk (Kd.R_newR ho HO.out)
           have HLT := Aside0.mk (Kd.fresh_ok HO.out)
           have HSZ := Aside0.mk hb.size
           have HB' := Aside0.mk (below_step HB.out hb)
           have HBS := Aside0.mk HB.out.size
           have HO' := Aside0.mk (Kd.R_below HO.out hb)
           clear HB HO ho hb)
        | ((with_reducible refine gate_builtin (b := .append) (xs := #[.tmp 11, .tmp 17]) rfl ?_); at_builtin
           refine Kd.R_append tw26 (w0 := w) w.heap.size rfl (.tmp 11) (.tmp 17) 54 24 (.agg #[.int .i64 0, .slice none 0 0]) 32 rfl Tryd.underlying54 info24 rfl (by decide) (by omega) u3 (yes26 (l0.take i)) (true, x) [.int .i64 x.f0, .slice (some ⟨g, 0, none⟩) x.f1.length cap] (fun _ => True) (fun k => True ∧ some k ≠ u3.ownBlock) rfl rfl ?aP (fun _ hk => hk) ?aF ?aO ?aB ?aS ?aL ?_
           (case aP => exact .inl ⟨rfl, [.int .i64 x.f0], [.slice (some ⟨g, 0, none⟩) x.f1.length cap], rfl, rfl, g, cap, rfl, Kd.R_lower HT.out HBS.out⟩)
           (case aF => exact (fun _ _ => trivial))
           (case aO => exact HO'.out)
           (case aB => exact HB'.out)
           (case aS => exact HB'.out.size)
           (case aL => have := HYL.out; omega)
           intro v2 w2 ho hb hg hat
           rw [HNX.out] at ho
           have HO2 := Aside0.mk ho
           have HB2 := Aside0.mk hb
           clear ho hb hg hat))
      go_roundg gj_
      case rel => exact ⟨i + 1, by go_num, ⟨by have := hg2.out; omega⟩, HO2, HB2⟩
      case measure => omega
    · have e := Lib.hid (show i = l0.length by have := hg2.out; omega)
      have hd : decide (i < l0.length) = false := decide_eq_false hi
      have HO' := HO.out
      rw [e.out, List.take_length] at HO'
      have HO3 := Aside0.mk HO'
      clear HO' HO
      have hyl2 : (yes26 l0).length = l0.length := by simp [yes26]
      have HYL := Aside0.mk hyl2
      clear hyl2
      go_wp2_with (first
        | ((with_reducible refine gate_builtin (b := .append) (xs := #[.tmp 19, .tmp 21]) rfl ?_); at_builtin
           refine Kd.R_append tw26 (w0 := w) w.heap.size rfl (.tmp 19) (.tmp 21) 54 24 (.agg #[.int .i64 0, .slice none 0 0]) 32 rfl Tryd.underlying54 info24 rfl (by decide) (by omega) u3 (yes26 l0) (false, ⟨-7, []⟩) [.int .i64 (-7), .slice none 0 0] (fun _ => True) (fun _ => False) rfl rfl ?aP (fun _ hk => hk.elim) ?aF ?aO ?aB ?aS ?aL ?_
           (case aP => exact .inr ⟨rfl, [.int .i64 (-7)], [.slice none 0 0], rfl, rfl, _, rfl, Kd.R_nil _ _ _ _ _⟩)
           (case aF => exact (fun _ _ => trivial))
           (case aO => exact HO3.out)
           (case aB => exact HB.out)
           (case aS => exact HB.out.size)
           (case aL => have := HYL.out; omega)
           intro v2 w2 ho hb hg hat
           have e9 : yes26 l0 ++ [(false, ⟨-7, []⟩)] = ys := HY.out.symm
           rw [e9] at ho
           obtain ⟨g, cap, eg, hgb, hgl, cells, hcells⟩ := Kd.R_form ho (by omega)
           subst eg
           obtain ⟨i0, hi0, _, _, _⟩ := info_parts info24
           have hcut := cut_to (P := Tryd.prog) 54 24 .i64 Tryd.underlying54 hi0 (some ⟨g, 0, none⟩) ys.length cap (l0.length : Int) (by omega) (by omega) (Kd.R_reads' ho).2.1
           rw [Int.toNat_natCast] at hcut
           have HO2 := Aside0.mk ho
           have HB2 := Aside0.mk hb
           clear hi0 ho hb hg hat e9 hcells hgb hgl))
      go_ret
      exact ⟨g, cap, rfl, HO2.out, HB2.out⟩
end Go.Proofs.YtjmkhdhffmlhiaaDoor.PAll
end
section
namespace Go.Proofs.YtjmkhdhffmlhiaaDoor.PAll
open Go.RowKit Go.Proofs.YtjmkhdhffmlhiaaDoorW.PrintWords Go.Proofs.YtjmkhdhffmlhiaaDoorW.PrintLast Go.Proofs.YtjmkhdhffmlhiaaDoorW.PrintMore
set_option maxHeartbeats 4000000 in
set_option maxRecDepth 100000 in
theorem kept_marked (n0 : Int) (g cap : Nat) (l0 : List Int) (A1 : Option Addr) (c1 : Nat) (w : World) (ht : Kd.C (Kd.int .u64) w (some ⟨g, 0, none⟩) (l0 ++ [theMark]).length (l0 ++ [theMark])) (hcap : (l0 ++ [theMark]).length ≤ cap) (hr1 : Kd.C (Kd.int .u64) w A1 l0.length l0) (hc1 : l0.length ≤ c1) :
    Calls Tryd.prog 22 #[.agg #[.int .i64 n0, .slice (some ⟨g, 0, none⟩) l0.length cap], .agg #[.int .i64 n0, .slice A1 l0.length c1]] w fun e w' => e = .returned (.bool true) ∧ Below w.heap.size w w' := by
  have hlen : (l0 ++ [theMark]).length = l0.length + 1 := by simp
  rw [hlen] at ht hcap
  have hb := ht.2.1
  obtain ⟨k, hk⟩ := same_sets n0 l0 (by omega)
  have h1 : Kd.C (Kd.int .u64) w (some ⟨g, 0, none⟩) l0.length l0 := by
    have ht2 := ht
    rw [← hlen] at ht2
    have h := Kd.C_take (m := l0.length) ht2 (by omega)
    simpa using h
  have HT := Aside0.mk h1
  have HM := Aside0.mk ht
  have HR := Aside0.mk hr1
  have HK := Aside0.mk hk
  clear ht h1 hr1 hk hlen
  have HB := Aside0.mk (Below.refl w.heap.size w)
  obtain ⟨i0, hi0, _, _, _⟩ := info_parts info87
  have hcut := cut_hm 22 87 Tryd.underlying22 hi0 g l0.length cap (l0.length + 1) hcap
  simp only [Int.natCast_add, Int.cast_ofNat_Int] at hcut
  clear hi0
  go_enter Tryd.func22, Tryd.ntmps22
  go_upto_region 1 with (first | ((with_reducible refine gate_dst (N := 2) rfl ?_); (try (refine gate_guard (by rfl) ?_; dsimp only)); refine box_event ?hg (N := 2) ?hd (cs := #[.int .i64 n0, .slice (some ⟨g, 0, none⟩) l0.length cap]) (t := 24) ?hr ?_; (case hd => rfl); (case hg => rfl); (case hr => first | (go_simp; done) | (go_simp; rfl)); intro gb101 hg w4 hbox hb; have n0_ := Aside0.mk (below_step (by repeat (first | (with_reducible first | exact HB.out | apply below_alloc | apply pw_below_drewN | apply below_drew1) | exact HB.out)) hb); have n1_ := Aside0.mk (hbox); have n2_ := Aside0.mk ((by rw [hg]; exact (below_size (by repeat (first | (with_reducible first | exact HB.out | apply below_alloc | apply pw_below_drewN | apply below_drew1) | exact HB.out))) : w.heap.size ≤ gb101)); have n3_ := Aside0.mk ((by rw [hg]; exact (below_size (by repeat (first | (with_reducible first | exact HB.out | apply below_alloc | apply pw_below_drewN | apply below_drew1) | exact HB.out))) : w.heap.size ≤ gb101)); clear HB; have HB := n0_; have BK101 := n1_; have GW101 := n2_; have GE101 := n3_; clear n0_ n1_ n2_ n3_; clear hb hbox hg) | ((with_reducible refine gate_dst (N := 3) rfl ?_); (try (refine gate_guard (by rfl) ?_; dsimp only)); refine box_event ?hg (N := 3) ?hd (cs := #[.int .i64 n0, .slice A1 l0.length c1]) (t := 24) ?hr ?_; (case hd => rfl); (case hg => rfl); (case hr => first | (go_simp; done) | (go_simp; rfl)); intro gb102 hg w5 hbox hb; have n0_ := Aside0.mk (blk_below (g := gb101) (o := .cells #[.int .i64 n0, .slice (some ⟨g, 0, none⟩) l0.length cap] 24 (0, 0)) (by (with_reducible repeat (first | refine blk_drewN ?_ _ | refine blk_drew ?_ | refine blk_alloc ?_ _)); exact BK101.out) hb); have n1_ := Aside0.mk (below_step (by repeat (first | (with_reducible first | exact HB.out | apply below_alloc | apply pw_below_drewN | apply below_drew1 | refine below_set ?_ GE101.out) | exact HB.out)) hb); have n2_ := Aside0.mk (hbox); have n3_ := Aside0.mk ((by rw [hg]; exact (below_size (by repeat (first | (with_reducible first | exact HB.out | apply below_alloc | apply pw_below_drewN | apply below_drew1 | refine below_set ?_ GE101.out) | exact HB.out))) : w.heap.size ≤ gb102)); have n4_ := Aside0.mk ((by rw [hg]; exact (below_size (by repeat (first | (with_reducible first | exact HB.out | apply below_alloc | apply pw_below_drewN | apply below_drew1 | refine below_set ?_ GE101.out) | exact HB.out))) : w.heap.size ≤ gb102)); have n5_ := Aside0.mk ((by rw [hg]; exact Nat.ne_of_lt (blk_lt (g := gb101) (o := .cells #[.int .i64 n0, .slice (some ⟨g, 0, none⟩) l0.length cap] 24 (0, 0)) (by (with_reducible repeat (first | refine blk_drewN ?_ _ | refine blk_drew ?_ | refine blk_alloc ?_ _)); exact BK101.out)) : gb101 ≠ gb102)); have n6_ := Aside0.mk ((by rw [hg]; exact Nat.ne_of_gt (blk_lt (g := gb101) (o := .cells #[.int .i64 n0, .slice (some ⟨g, 0, none⟩) l0.length cap] 24 (0, 0)) (by (with_reducible repeat (first | refine blk_drewN ?_ _ | refine blk_drew ?_ | refine blk_alloc ?_ _)); exact BK101.out)) : gb102 ≠ gb101)); clear BK101; clear HB; have BK101 := n0_; have HB := n1_; have BK102 := n2_; have GW102 := n3_; have GE102 := n4_; have NB101_102 := n5_; have NB102_101 := n6_; clear n0_ n1_ n2_ n3_ n4_ n5_ n6_; clear hb hbox hg))
  repeat (go_quiet (first | ((with_reducible refine gate_dst (N := 2) rfl ?_); (try (refine gate_guard (by rfl) ?_; dsimp only)); refine box_event ?hg (N := 2) ?hd (cs := #[.int .i64 n0, .slice (some ⟨g, 0, none⟩) l0.length cap]) (t := 24) ?hr ?_; (case hd => rfl); (case hg => rfl); (case hr => first | (go_simp; done) | (go_simp; rfl)); intro gb101 hg w4 hbox hb; have n0_ := Aside0.mk (below_step (by repeat (first | (with_reducible first | exact HB.out | apply below_alloc | apply pw_below_drewN | apply below_drew1) | exact HB.out)) hb); have n1_ := Aside0.mk (hbox); have n2_ := Aside0.mk ((by rw [hg]; exact (below_size (by repeat (first | (with_reducible first | exact HB.out | apply below_alloc | apply pw_below_drewN | apply below_drew1) | exact HB.out))) : w.heap.size ≤ gb101)); have n3_ := Aside0.mk ((by rw [hg]; exact (below_size (by repeat (first | (with_reducible first | exact HB.out | apply below_alloc | apply pw_below_drewN | apply below_drew1) | exact HB.out))) : w.heap.size ≤ gb101)); clear HB; have HB := n0_; have BK101 := n1_; have GW101 := n2_; have GE101 := n3_; clear n0_ n1_ n2_ n3_; clear hb hbox hg) | ((with_reducible refine gate_dst (N := 3) rfl ?_); (try (refine gate_guard (by rfl) ?_; dsimp only)); refine box_event ?hg (N := 3) ?hd (cs := #[.int .i64 n0, .slice A1 l0.length c1]) (t := 24) ?hr ?_; (case hd => rfl); (case hg => rfl); (case hr => first | (go_simp; done) | (go_simp; rfl)); intro gb102 hg w5 hbox hb; have n0_ := Aside0.mk (blk_below (g := gb101) (o := .cells #[.int .i64 n0, .slice (some ⟨g, 0, none⟩) l0.length cap] 24 (0, 0)) (by (with_reducible repeat (first | refine blk_drewN ?_ _ | refine blk_drew ?_ | refine blk_alloc ?_ _)); exact BK101.out) hb); have n1_ := Aside0.mk (below_step (by repeat (first | (with_reducible first | exact HB.out | apply below_alloc | apply pw_below_drewN | apply below_drew1 | refine below_set ?_ GE101.out) | exact HB.out)) hb); have n2_ := Aside0.mk (hbox); have n3_ := Aside0.mk ((by rw [hg]; exact (below_size (by repeat (first | (with_reducible first | exact HB.out | apply below_alloc | apply pw_below_drewN | apply below_drew1 | refine below_set ?_ GE101.out) | exact HB.out))) : w.heap.size ≤ gb102)); have n4_ := Aside0.mk ((by rw [hg]; exact (below_size (by repeat (first | (with_reducible first | exact HB.out | apply below_alloc | apply pw_below_drewN | apply below_drew1 | refine below_set ?_ GE101.out) | exact HB.out))) : w.heap.size ≤ gb102)); have n5_ := Aside0.mk ((by rw [hg]; exact Nat.ne_of_lt (blk_lt (g := gb101) (o := .cells #[.int .i64 n0, .slice (some ⟨g, 0, none⟩) l0.length cap] 24 (0, 0)) (by (with_reducible repeat (first | refine blk_drewN ?_ _ | refine blk_drew ?_ | refine blk_alloc ?_ _)); exact BK101.out)) : gb101 ≠ gb102)); have n6_ := Aside0.mk ((by rw [hg]; exact Nat.ne_of_gt (blk_lt (g := gb101) (o := .cells #[.int .i64 n0, .slice (some ⟨g, 0, none⟩) l0.length cap] 24 (0, 0)) (by (with_reducible repeat (first | refine blk_drewN ?_ _ | refine blk_drew ?_ | refine blk_alloc ?_ _)); exact BK101.out)) : gb102 ≠ gb101)); clear BK101; clear HB; have BK101 := n0_; have HB := n1_; have BK102 := n2_; have GW102 := n3_; have GE102 := n4_; have NB101_102 := n5_; have NB102_101 := n6_; clear n0_ n1_ n2_ n3_ n4_ n5_ n6_; clear hb hbox hg)); go_upto_region 1 with (first | ((with_reducible refine gate_dst (N := 2) rfl ?_); (try (refine gate_guard (by rfl) ?_; dsimp only)); refine box_event ?hg (N := 2) ?hd (cs := #[.int .i64 n0, .slice (some ⟨g, 0, none⟩) l0.length cap]) (t := 24) ?hr ?_; (case hd => rfl); (case hg => rfl); (case hr => first | (go_simp; done) | (go_simp; rfl)); intro gb101 hg w4 hbox hb; have n0_ := Aside0.mk (below_step (by repeat (first | (with_reducible first | exact HB.out | apply below_alloc | apply pw_below_drewN | apply below_drew1) | exact HB.out)) hb); have n1_ := Aside0.mk (hbox); have n2_ := Aside0.mk ((by rw [hg]; exact (below_size (by repeat (first | (with_reducible first | exact HB.out | apply below_alloc | apply pw_below_drewN | apply below_drew1) | exact HB.out))) : w.heap.size ≤ gb101)); have n3_ := Aside0.mk ((by rw [hg]; exact (below_size (by repeat (first | (with_reducible first | exact HB.out | apply below_alloc | apply pw_below_drewN | apply below_drew1) | exact HB.out))) : w.heap.size ≤ gb101)); clear HB; have HB := n0_; have BK101 := n1_; have GW101 := n2_; have GE101 := n3_; clear n0_ n1_ n2_ n3_; clear hb hbox hg) | ((with_reducible refine gate_dst (N := 3) rfl ?_); (try (refine gate_guard (by rfl) ?_; dsimp only)); refine box_event ?hg (N := 3) ?hd (cs := #[.int .i64 n0, .slice A1 l0.length c1]) (t := 24) ?hr ?_; (case hd => rfl); (case hg => rfl); (case hr => first | (go_simp; done) | (go_simp; rfl)); intro gb102 hg w5 hbox hb; have n0_ := Aside0.mk (blk_below (g := gb101) (o := .cells #[.int .i64 n0, .slice (some ⟨g, 0, none⟩) l0.length cap] 24 (0, 0)) (by (with_reducible repeat (first | refine blk_drewN ?_ _ | refine blk_drew ?_ | refine blk_alloc ?_ _)); exact BK101.out) hb); have n1_ := Aside0.mk (below_step (by repeat (first | (with_reducible first | exact HB.out | apply below_alloc | apply pw_below_drewN | apply below_drew1 | refine below_set ?_ GE101.out) | exact HB.out)) hb); have n2_ := Aside0.mk (hbox); have n3_ := Aside0.mk ((by rw [hg]; exact (below_size (by repeat (first | (with_reducible first | exact HB.out | apply below_alloc | apply pw_below_drewN | apply below_drew1 | refine below_set ?_ GE101.out) | exact HB.out))) : w.heap.size ≤ gb102)); have n4_ := Aside0.mk ((by rw [hg]; exact (below_size (by repeat (first | (with_reducible first | exact HB.out | apply below_alloc | apply pw_below_drewN | apply below_drew1 | refine below_set ?_ GE101.out) | exact HB.out))) : w.heap.size ≤ gb102)); have n5_ := Aside0.mk ((by rw [hg]; exact Nat.ne_of_lt (blk_lt (g := gb101) (o := .cells #[.int .i64 n0, .slice (some ⟨g, 0, none⟩) l0.length cap] 24 (0, 0)) (by (with_reducible repeat (first | refine blk_drewN ?_ _ | refine blk_drew ?_ | refine blk_alloc ?_ _)); exact BK101.out)) : gb101 ≠ gb102)); have n6_ := Aside0.mk ((by rw [hg]; exact Nat.ne_of_gt (blk_lt (g := gb101) (o := .cells #[.int .i64 n0, .slice (some ⟨g, 0, none⟩) l0.length cap] 24 (0, 0)) (by (with_reducible repeat (first | refine blk_drewN ?_ _ | refine blk_drew ?_ | refine blk_alloc ?_ _)); exact BK101.out)) : gb102 ≠ gb101)); clear BK101; clear HB; have BK101 := n0_; have HB := n1_; have BK102 := n2_; have GW102 := n3_; have GE102 := n4_; have NB101_102 := n5_; have NB102_101 := n6_; clear n0_ n1_ n2_ n3_ n4_ n5_ n6_; clear hb hbox hg)))
  (try simp only [Act.put, List.setIfInBounds_toArray, List.set_cons_zero, List.set_cons_succ])
  have hcz0_0 : w5.cell? ⟨gb101, 0, none⟩ = some (.int .i64 n0) := (blk_cell BK101.out 0).trans rfl
  have hcz0_1 : w5.cell? ⟨gb101, 1, none⟩ = some (.slice (some ⟨g, 0, none⟩) l0.length cap) := (blk_cell BK101.out 1).trans rfl
  have hfz0_0 := blk_frozen BK101.out 0
  have hfz0_1 := blk_frozen BK101.out 1
  have hcz1_0 : w5.cell? ⟨gb102, 0, none⟩ = some (.int .i64 n0) := (blk_cell BK102.out 0).trans rfl
  have hcz1_1 : w5.cell? ⟨gb102, 1, none⟩ = some (.slice A1 l0.length c1) := (blk_cell BK102.out 1).trans rfl
  have hfz1_0 := blk_frozen BK102.out 0
  have hfz1_1 := blk_frozen BK102.out 1
  go_wp2_with (first
    | ((with_reducible refine gate_callee (f := 20) rfl ?_); refine goesL_ (some 11) rfl rfl Tryd.func20 (by kernel_rfl) rfl #[.agg #[.int .i64 n0, .slice (some ⟨g, 0, none⟩) l0.length cap], .agg #[.int .i64 n0, .slice A1 l0.length c1]] rfl (by (try simp only [List.map_toArray, List.map_cons, List.map_nil]); first | done | rfl) ?_
       (with_reducible refine (slopelaw3_same.calls k n0 _ _ l0 n0 _ _ l0 true _ (Kd.C_below HT.out HB.out) (by omega) (Kd.C_below HR.out HB.out) hc1 HK.out).mono ?_)
       rintro e w' ⟨rfl, hbw⟩
       refine ⟨_, rfl, ?_⟩
       have HB2 := Aside0.mk (below_step HB.out hbw)
       have kb1 := blk_below (g := gb101) BK101.out hbw
       have hcy_1 : w'.cell? ⟨gb101, 1, none⟩ = some (.slice (some ⟨g, 0, none⟩) l0.length cap) := (blk_cell kb1 1).trans rfl
       have hfy_1 := blk_frozen kb1 1
       obtain ⟨ad, ea, hx⟩ := Kd.at_int (Kd.C_below HM.out HB2.out) (l0.length : Int) (by omega) (by omega)
       cases ea
       rw [Int.toNat_natCast, add_plain] at hx
       have hrd : rd (l0 ++ [theMark]) (l0.length : Int) = 8608480567731124087 := by simp [rd, List.getD_eq_getElem?_getD, theMark]
       rw [hrd] at hx
       clear kb1 hbw hrd))
  go_ret
  exact ⟨rfl, HB2.out⟩
end Go.Proofs.YtjmkhdhffmlhiaaDoor.PAll
end
section
namespace Go.Proofs.YtjmkhdhffmlhiaaDoor.PAll
set_option linter.unusedVariables false
open Go.RowKit Go.Proofs.YtjmkhdhffmlhiaaDoorW.PrintWords Go.Proofs.YtjmkhdhffmlhiaaDoorW.PrintLast Go.Proofs.YtjmkhdhffmlhiaaDoorW.PrintMore
theorem tws26_get {l : List S24} {i : Nat} (h : i < l.length) (z : Bool × S24) : (tws26 l).getD i z = (true, rd_T24 l (i : Int)) := by
  unfold tws26 yes26 rd_T24
  rw [List.getD_eq_getElem?_getD, List.getElem?_append_left (by simpa using h)]
  simp [List.getD_eq_getElem?_getD, List.getElem?_eq_getElem h]
theorem tws26_last {l : List S24} (z : Bool × S24) : (tws26 l).getD l.length z = (false, ⟨-7, []⟩) := by
  unfold tws26 yes26
  rw [List.getD_eq_getElem?_getD, List.getElem?_append_right (by simp)]
  simp
theorem at_tw {w : World} {g n : Nat} {l : List S24} (h : Kd.C tw26 w (some ⟨g, 0, none⟩) n (tws26 l)) {i : Nat} (hi : i < l.length) (hn : i < n) :
    ∃ g1 c1, w.cell? ⟨g, i * 2, none⟩ = some (.int .i64 (rd_T24 l (i : Int)).f0) ∧ w.cell? ⟨g, i * 2 + 1, none⟩ = some (.slice (some ⟨g1, 0, none⟩) (rd_T24 l (i : Int)).f1.length c1) ∧
      ((rd_T24 l (i : Int)).f1 ++ [theMark]).length ≤ c1 ∧ Kd.C (Kd.int .u64) w (some ⟨g1, 0, none⟩) ((rd_T24 l (i : Int)).f1 ++ [theMark]).length ((rd_T24 l (i : Int)).f1 ++ [theMark]) := by
  obtain ⟨ad, c, e, _, hK, hc⟩ := Kd.C_get h (false, ⟨0, []⟩) (i : Int) (by omega) (by omega)
  cases e
  rw [Int.toNat_natCast, tws26_get hi] at hK
  rw [Int.toNat_natCast] at hc
  rcases hK with ⟨_, c0, c1, rfl, h0, g1, cp, rfl, hl, hr⟩ | ⟨h0, _⟩
  · obtain rfl : c0 = [Value.int .i64 (rd_T24 l (i : Int)).f0] := h0
    have q0 := hc 0 _ rfl
    have q1 := hc 1 _ rfl
    rw [add_plain] at q0 q1
    exact ⟨g1, cp, q0, q1, hl, hr⟩
  · cases h0
theorem at_tw_last {w : World} {g n : Nat} {l : List S24} (h : Kd.C tw26 w (some ⟨g, 0, none⟩) n (tws26 l)) (hn : l.length < n) :
    w.cell? ⟨g, l.length * 2, none⟩ = some (.int .i64 (-7)) := by
  obtain ⟨ad, c, e, _, hK, hc⟩ := Kd.C_get h (false, ⟨0, []⟩) (l.length : Int) (by omega) (by omega)
  cases e
  rw [Int.toNat_natCast, tws26_last] at hK
  rw [Int.toNat_natCast] at hc
  rcases hK with ⟨h0, _⟩ | ⟨_, c0, c1, rfl, h0, _⟩
  · cases h0
  · obtain rfl : c0 = [Value.int .i64 (-7)] := h0
    have q0 := hc 0 _ rfl
    rw [add_plain] at q0
    exact q0
theorem tws_reads {W : World} {g : Nat} {l : List S24} (h : Kd.C tw26 W (some ⟨g, 0, none⟩) (tws26 l).length (tws26 l)) : Kd.C k24 W (some ⟨g, 0, none⟩) l.length l := by
  obtain ⟨h1, h2, h3⟩ := h
  obtain ⟨a, ea, h4⟩ := h3 (by rw [tws26_len]; omega)
  rw [tws26_len] at h2
  refine ⟨rfl, by omega, fun _ => ⟨a, ea, fun j p hj => ?_⟩⟩
  obtain ⟨hj', rfl⟩ := List.getElem?_eq_some_iff.1 hj
  have e1 : (tws26 l)[j]? = some (true, l[j]) := by
    unfold tws26 yes26
    rw [List.getElem?_append_left (by simpa using hj')]
    simp [List.getElem?_eq_getElem hj']
  obtain ⟨cs, k1, k2, k3⟩ := h4 j (true, l[j]) e1
  rcases k2 with ⟨_, c0, c1, rfl, e0, g1, cp, rfl, hl, hr⟩ | ⟨e, _⟩
  · have hr2 := Kd.C_take (m := l[j].f1.length) hr (by simp)
    have hl2 : l[j].f1.length ≤ cp := by simp at hl; omega
    exact ⟨_, k1, ⟨c0, _, rfl, e0, some ⟨g1, 0, none⟩, cp, rfl, hl2, by simpa using hr2⟩, k3⟩
  · cases e
theorem tws_fits {W : World} {g cap : Nat} {base : Nat} {ok : Nat → Prop} {l : List S24} (h : Kd.R tw26 24 W base ok (.slice (some ⟨g, 0, none⟩) (tws26 l).length cap) (tws26 l)) : l.length ≤ cap := by
  have h1 := (Kd.R_reads' h).2.1
  have h2 := tws26_len l
  omega
set_option maxHeartbeats 4000000 in
set_option maxRecDepth 100000 in
theorem keptAll_marked (g cap : Nat) (l0 : List S24) (A1 : Option Addr) (c1 : Nat) (w : World) (ht : Kd.C tw26 w (some ⟨g, 0, none⟩) (tws26 l0).length (tws26 l0)) (hcap : (tws26 l0).length ≤ cap) (hr1 : Kd.C k24 w A1 l0.length l0) (hc1 : l0.length ≤ c1) :
    Calls Tryd.prog 53 #[.slice (some ⟨g, 0, none⟩) l0.length cap, .slice A1 l0.length c1] w fun e w' => e = .returned (.bool true) ∧ Below w.heap.size w w' := by
  rw [tws26_len] at ht hcap
  have hb := ht.2.1
  have hlast := at_tw_last ht (by omega)
  have HT := Aside0.mk ht
  have HR := Aside0.mk hr1
  have HB := Aside0.mk (Below.refl w.heap.size w)
  obtain ⟨i0, hi0, _, _, _⟩ := info_parts info24
  have hcut := cut_hm 54 24 Tryd.underlying54 hi0 g l0.length cap (l0.length + 1) hcap
  simp only [Int.natCast_add, Int.cast_ofNat_Int] at hcut
  clear hi0 ht hr1
  go_enter Tryd.func53, Tryd.ntmps53
  go_wp2_with fail
  go_loopg [5] (l0.length) (fun gj v5 w2 => ∃ i : Nat, v5 = .int .i64 i ∧ Aside0 (gj + i = l0.length) ∧ Aside0 (Below w.heap.size w w2))
  case atStart => exact ⟨0, rfl, ⟨by simp⟩, HB⟩
  case round =>
    clear HB
    obtain ⟨i, rfl, hg2, HB⟩ := hrel
    by_cases hi : i < l0.length
    · obtain ⟨gj_, rfl⟩ : ∃ m, gk = m + 1 := ⟨gk - 1, by have := hg2.out; omega⟩
      have hd : decide (i < l0.length) = true := decide_eq_true hi
      have hi2 : i < cap := by omega
      obtain ⟨ad, A2, c2, e1, hx0, hx1, hl1, hi1⟩ := at_T24 HR.out (i : Int) (by omega) (by omega)
      cases e1
      replace hx0 := (HB.out.cell (World.block_lt_of_cell? w _ hx0)).trans hx0
      replace hx1 := (HB.out.cell (World.block_lt_of_cell? w _ hx1)).trans hx1
      rw [Int.toNat_natCast] at hx0 hx1
      obtain ⟨g1, cp, hy0, hy1, hl2, hi2'⟩ := at_tw HT.out hi (by omega)
      replace hy0 := (HB.out.cell (World.block_lt_of_cell? w _ hy0)).trans hy0
      replace hy1 := (HB.out.cell (World.block_lt_of_cell? w _ hy1)).trans hy1
      obtain ⟨x, hx⟩ : ∃ x, rd_T24 l0 (i : Int) = x := ⟨_, rfl⟩
      rw [hx] at hx0 hx1 hl1 hi1 hy0 hy1 hl2 hi2'
      have HL1 := Aside0.mk hl1
      have HI1 := Aside0.mk hi1
      have HL2 := Aside0.mk hl2
      have HI2 := Aside0.mk hi2'
      clear hl1 hi1 hl2 hi2' hx hlast
      go_wp2_with fail
      go_still_tail 8, (by kernel_rfl)
      go_wp2_with (first
        | ((with_reducible refine gate_callee (f := 22) rfl ?_); refine goesL_ (some 41) rfl rfl Tryd.func22 (by kernel_rfl) rfl #[.agg #[.int .i64 x.f0, .slice (some ⟨g1, 0, none⟩) x.f1.length cp], .agg #[.int .i64 x.f0, .slice A2 x.f1.length c2]] rfl (by (try simp only [List.map_toArray, List.map_cons, List.map_nil]); first | done | rfl) ?_
           (with_reducible refine (kept_marked x.f0 g1 cp x.f1 A2 c2 _ ?s1 HL2.out ?s3 HL1.out).mono ?_)
           (case s1 => exact Kd.C_below HI2.out (below_drew1 HB.out))
           (case s3 => exact Kd.C_below HI1.out (below_drew1 HB.out))
           rintro e w1 ⟨rfl, hb⟩
           refine ⟨_, rfl, ?_⟩
           have HB' := Aside0.mk (below_step (below_drew1 HB.out) hb)
           clear HB hb))
      go_roundg gj_
      case rel => exact ⟨i + 1, by go_num, ⟨by have := hg2.out; omega⟩, HB'⟩
      case measure => omega
    · have hd : decide (i < l0.length) = false := decide_eq_false hi
      go_wp2
      go_ret
      exact ⟨rfl, HB.out⟩
end Go.Proofs.YtjmkhdhffmlhiaaDoor.PAll
end
section
namespace Go.Proofs.YtjmkhdhffmlhiaaDoor.PAll
set_option linter.unusedVariables false
set_option linter.unusedSimpArgs false
open Go.RowKit Go.Shelf Go.Proofs.YtjmkhdhffmlhiaaDoorW.PrintWords Go.Proofs.YtjmkhdhffmlhiaaDoorW.PrintLast Go.Proofs.YtjmkhdhffmlhiaaDoorW.PrintMore
attribute [local go_sem] Oper.semAt_some
set_option maxHeartbeats 8000000 in
set_option maxRecDepth 100000 in
theorem BitTables_walk (k1 k2 k3 k4 k6 s1 s2 s3 : Nat) (n : Int) (A0 : Option Addr) (c0 : Nat) (l : List S24) (w : World) (hr0 : Kd.C k24 w A0 l.length l) (hc_l : l.length ≤ c0) (hG : Tz w) (hn_l : l.length * 32 ≤ 140737488351232) (he_l : ∀ x ∈ l, x.f1.length * 8 ≤ 140737488351232)
    (x1 x2 e1 e2 e3 : Int) (y1 y2 : List S24) (r : List Int)
    (h1 : bitset_MakeTable.f k1 n l = some (x1, y1, e1)) (h2 : sloperef3_MakeTable.f k2 n l = some (x1, y1, e1)) (h3 : bitset_Turn.f k3 n l = some (x2, y2, e2)) (h4 : sloperef3_Turn.f k4 n l = some (x2, y2, e2))
    (h5 : ∀ (A0 : Option Addr) (c0 : Nat) (w : World), Kd.C k24 w A0 l.length l → l.length ≤ c0 → Calls Tryd.prog 51 #[.agg #[.int .i64 n, .slice A0 l.length c0]] w fun x w' => ∃ v, x = .returned (.tuple #[v, .int .i64 e3]) ∧ Kd.R (Kd.int .i64) 3 w' w.heap.size (fun _ => True) v r ∧ Below w.heap.size w w')
    (h6 : sloperef3_Firsts.f k6 n l = some (r, e3))
    (t1 : slopelaw3_sameTable.f s1 x1 y1 x1 y1 = some true) (t2 : slopelaw3_sameTable.f s2 x2 y2 x2 y2 = some true) (t3 : slopelaw3_sameInts.f s3 r r = some true) :
    Calls Tryd.prog 8 #[.int .i64 n, .slice A0 l.length c0] w fun e w' => e = .returned (.bool true) ∧ Below w.heap.size w w' := by
  have hu24 := Tryd.underlying24
  have hu56 := Tryd.underlying56
  have HC := Aside0.mk hr0
  have HG := Aside0.mk hG
  have H1 := Aside0.mk h1; have H2 := Aside0.mk h2; have H3 := Aside0.mk h3; have H4 := Aside0.mk h4; have H5 := Aside0.mk h5; have H6 := Aside0.mk h6; have S1 := Aside0.mk t1; have S2 := Aside0.mk t2; have S3 := Aside0.mk t3
  clear hr0 hG h1 h2 h3 h4 h5 h6 t1 t2 t3
  have HB := Aside0.mk (Below.refl w.heap.size w)
  refine (callsIn_wide (n := 6)).1 ?_
  refine callsIn_of_wp Tryd.func8 rfl trivial ?_ rfl
  simp only [Tryd.ntmps8, List.size_toArray, List.length_cons, List.length_nil, Nat.reduceAdd, Nat.reduceSub, Array.replicate_succ, Array.replicate_zero, List.push_toArray, List.append_toArray, List.nil_append, List.cons_append]
  gi_wp2_with fail
  refine ⟨trivial, ?_⟩; gi_at_call 47
  refine (callsIn_wide.2 (twins_marked A0 c0 l _ (Kd.C_below HC.out HB.out) hc_l hn_l he_l)).mono ?_
  rintro e w1 ⟨gHT, capHT, rfl, ho, hb⟩
  have mHT := Aside0.mk ho; clear ho
  have nHB_ := Aside0.mk (below_step HB.out hb)
  clear HB
  have HB := nHB_
  clear nHB_
  clear hb; have HT := mHT; clear mHT
  have lT := Aside0.mk (tws_fits HT.out)
  gi_wp2_with fail
  refine ⟨trivial, ?_⟩; gi_at_call 48
  refine (callsIn_wide.2 (bitset_MakeTable.calls k1 n _ _ l _ _ _ _ (tws_reads (Kd.R_reads' HT.out).2.2) lT.out H1.out)).mono ?_
  rintro e w2 ⟨vt, rfl, ho, hb⟩
  obtain ⟨AQ1, cQ1, et⟩ := Kd.S_slice ho
  subst et
  have lQ1 := Aside0.mk (Kd.S_reads' ho).2.1; have mQ1 := Aside0.mk (Kd.S_reads' ho).2.2
  clear ho
  have nHB_ := Aside0.mk (below_step HB.out hb)
  have nHT_ := Aside0.mk (Kd.R_below HT.out hb)
  clear HB HT
  have HB := nHB_; have HT := nHT_
  clear nHB_ nHT_
  have Q1 := mQ1; clear mQ1
  have xK1 := Aside0.mk (blk_new w2 (.cells #[.int .i64 x1, .slice AQ1 y1.length cQ1] 56 (0, 0)))
  clear hb
  have nHB_ := Aside0.mk (below_alloc HB.out (.cells #[.int .i64 x1, .slice AQ1 y1.length cQ1] 56 (0, 0)))
  have nHT_ := Aside0.mk (Kd.R_alloc HT.out (.cells #[.int .i64 x1, .slice AQ1 y1.length cQ1] 56 (0, 0)))
  have nQ1_ := Aside0.mk (Kd.C_alloc Q1.out (.cells #[.int .i64 x1, .slice AQ1 y1.length cQ1] 56 (0, 0)))
  clear HB HT Q1
  have HB := nHB_; have HT := nHT_; have Q1 := nQ1_
  clear nHB_ nHT_ nQ1_
  have K1 := xK1; clear xK1
  gi_wp2_with fail
  refine ⟨trivial, ?_⟩; gi_at_call 49
  refine (callsIn_wide.2 (sloperef3_MakeTable.calls k2 n _ _ l _ _ _ _ (Kd.C_below HC.out HB.out) hc_l H2.out)).mono ?_
  rintro e w3 ⟨vt, rfl, ho, hb⟩
  obtain ⟨AQ2, cQ2, et⟩ := Kd.S_slice ho
  subst et
  have lQ2 := Aside0.mk (Kd.S_reads' ho).2.1; have mQ2 := Aside0.mk (Kd.S_reads' ho).2.2
  clear ho
  have nHB_ := Aside0.mk (below_step HB.out hb)
  have nHT_ := Aside0.mk (Kd.R_below HT.out hb)
  have nQ1_ := Aside0.mk (Kd.C_below Q1.out hb)
  have nK1_ := Aside0.mk (blk_below K1.out hb)
  clear HB HT Q1 K1
  have HB := nHB_; have HT := nHT_; have Q1 := nQ1_; have K1 := nK1_
  clear nHB_ nHT_ nQ1_ nK1_
  have Q2 := mQ2; clear mQ2
  have xK2 := Aside0.mk (blk_new w3 (.cells #[.int .i64 x1, .slice AQ2 y1.length cQ2] 56 (0, 0)))
  clear hb
  have nHB_ := Aside0.mk (below_alloc HB.out (.cells #[.int .i64 x1, .slice AQ2 y1.length cQ2] 56 (0, 0)))
  have nHT_ := Aside0.mk (Kd.R_alloc HT.out (.cells #[.int .i64 x1, .slice AQ2 y1.length cQ2] 56 (0, 0)))
  have nQ1_ := Aside0.mk (Kd.C_alloc Q1.out (.cells #[.int .i64 x1, .slice AQ2 y1.length cQ2] 56 (0, 0)))
  have nK1_ := Aside0.mk (blk_alloc K1.out (.cells #[.int .i64 x1, .slice AQ2 y1.length cQ2] 56 (0, 0)))
  have nQ2_ := Aside0.mk (Kd.C_alloc Q2.out (.cells #[.int .i64 x1, .slice AQ2 y1.length cQ2] 56 (0, 0)))
  clear HB HT Q1 K1 Q2
  have HB := nHB_; have HT := nHT_; have Q1 := nQ1_; have K1 := nK1_; have Q2 := nQ2_
  clear nHB_ nHT_ nQ1_ nK1_ nQ2_
  have K2 := xK2; clear xK2
  have y1_ : (((w3.alloc (.cells #[.int .i64 x1, .slice AQ2 y1.length cQ2] 56 (0, 0))).alloc (.cells #[.int .i64 n, .slice (some ⟨gHT, 0, none⟩) l.length capHT] 56 (0, 0))).alloc (.cells #[.int .i64 n, .slice A0 l.length c0] 56 (0, 0))).heap[w3.heap.size + 1]? = some (.cells #[.int .i64 n, .slice (some ⟨gHT, 0, none⟩) l.length capHT] 56 (0, 0)) := by have := blk_alloc (blk_new (w3.alloc (.cells #[.int .i64 x1, .slice AQ2 y1.length cQ2] 56 (0, 0))) (.cells #[.int .i64 n, .slice (some ⟨gHT, 0, none⟩) l.length capHT] 56 (0, 0))) (.cells #[.int .i64 n, .slice A0 l.length c0] 56 (0, 0)); rwa [World.size_alloc] at this
  have y2_ : (((w3.alloc (.cells #[.int .i64 x1, .slice AQ2 y1.length cQ2] 56 (0, 0))).alloc (.cells #[.int .i64 n, .slice (some ⟨gHT, 0, none⟩) l.length capHT] 56 (0, 0))).alloc (.cells #[.int .i64 n, .slice A0 l.length c0] 56 (0, 0))).heap[w3.heap.size + 1 + 1]? = some (.cells #[.int .i64 n, .slice A0 l.length c0] 56 (0, 0)) := by have := blk_new ((w3.alloc (.cells #[.int .i64 x1, .slice AQ2 y1.length cQ2] 56 (0, 0))).alloc (.cells #[.int .i64 n, .slice (some ⟨gHT, 0, none⟩) l.length capHT] 56 (0, 0))) (.cells #[.int .i64 n, .slice A0 l.length c0] 56 (0, 0)); rwa [World.size_alloc, World.size_alloc] at this
  have qT0 := (blk_cell y1_ 0).trans rfl; have qT1 := (blk_cell y1_ 1).trans rfl; have qU0 := (blk_cell y2_ 0).trans rfl; have qU1 := (blk_cell y2_ 1).trans rfl
  have KT := Aside0.mk y1_; have KU := Aside0.mk y2_; clear y1_ y2_
  have nHB_ := Aside0.mk (below_alloc HB.out (.cells #[.int .i64 n, .slice (some ⟨gHT, 0, none⟩) l.length capHT] 56 (0, 0)))
  have nHT_ := Aside0.mk (Kd.R_alloc HT.out (.cells #[.int .i64 n, .slice (some ⟨gHT, 0, none⟩) l.length capHT] 56 (0, 0)))
  have nQ1_ := Aside0.mk (Kd.C_alloc Q1.out (.cells #[.int .i64 n, .slice (some ⟨gHT, 0, none⟩) l.length capHT] 56 (0, 0)))
  have nK1_ := Aside0.mk (blk_alloc K1.out (.cells #[.int .i64 n, .slice (some ⟨gHT, 0, none⟩) l.length capHT] 56 (0, 0)))
  have nQ2_ := Aside0.mk (Kd.C_alloc Q2.out (.cells #[.int .i64 n, .slice (some ⟨gHT, 0, none⟩) l.length capHT] 56 (0, 0)))
  have nK2_ := Aside0.mk (blk_alloc K2.out (.cells #[.int .i64 n, .slice (some ⟨gHT, 0, none⟩) l.length capHT] 56 (0, 0)))
  clear HB HT Q1 K1 Q2 K2
  have HB := nHB_; have HT := nHT_; have Q1 := nQ1_; have K1 := nK1_; have Q2 := nQ2_; have K2 := nK2_
  clear nHB_ nHT_ nQ1_ nK1_ nQ2_ nK2_
  have nHB_ := Aside0.mk (below_alloc HB.out (.cells #[.int .i64 n, .slice A0 l.length c0] 56 (0, 0)))
  have nHT_ := Aside0.mk (Kd.R_alloc HT.out (.cells #[.int .i64 n, .slice A0 l.length c0] 56 (0, 0)))
  have nQ1_ := Aside0.mk (Kd.C_alloc Q1.out (.cells #[.int .i64 n, .slice A0 l.length c0] 56 (0, 0)))
  have nK1_ := Aside0.mk (blk_alloc K1.out (.cells #[.int .i64 n, .slice A0 l.length c0] 56 (0, 0)))
  have nQ2_ := Aside0.mk (Kd.C_alloc Q2.out (.cells #[.int .i64 n, .slice A0 l.length c0] 56 (0, 0)))
  have nK2_ := Aside0.mk (blk_alloc K2.out (.cells #[.int .i64 n, .slice A0 l.length c0] 56 (0, 0)))
  clear HB HT Q1 K1 Q2 K2
  have HB := nHB_; have HT := nHT_; have Q1 := nQ1_; have K1 := nK1_; have Q2 := nQ2_; have K2 := nK2_
  clear nHB_ nHT_ nQ1_ nK1_ nQ2_ nK2_
  gi_wp2_with fail
  refine ⟨trivial, ?_⟩; gi_at_call 42
  refine (callsIn_wide.2 (bitset_Turn.calls k3 n _ _ l _ _ _ _ (tws_reads (Kd.R_reads' HT.out).2.2) lT.out (tz_at HG.out HB.out) H3.out)).mono ?_
  rintro e w4 ⟨vt, rfl, ho, hb⟩
  obtain ⟨AQ3, cQ3, et⟩ := Kd.S_slice ho
  subst et
  have lQ3 := Aside0.mk (Kd.S_reads' ho).2.1; have mQ3 := Aside0.mk (Kd.S_reads' ho).2.2
  clear ho
  have nHB_ := Aside0.mk (below_step HB.out hb)
  have nHT_ := Aside0.mk (Kd.R_below HT.out hb)
  have nQ1_ := Aside0.mk (Kd.C_below Q1.out hb)
  have nK1_ := Aside0.mk (blk_below K1.out hb)
  have nQ2_ := Aside0.mk (Kd.C_below Q2.out hb)
  have nK2_ := Aside0.mk (blk_below K2.out hb)
  have nKT_ := Aside0.mk (blk_below KT.out hb)
  have nKU_ := Aside0.mk (blk_below KU.out hb)
  clear HB HT Q1 K1 Q2 K2 KT KU
  have HB := nHB_; have HT := nHT_; have Q1 := nQ1_; have K1 := nK1_; have Q2 := nQ2_; have K2 := nK2_; have KT := nKT_; have KU := nKU_
  clear nHB_ nHT_ nQ1_ nK1_ nQ2_ nK2_ nKT_ nKU_
  have Q3 := mQ3; clear mQ3
  have xK3 := Aside0.mk (blk_new w4 (.cells #[.int .i64 x2, .slice AQ3 y2.length cQ3] 56 (0, 0)))
  clear hb
  have nHB_ := Aside0.mk (below_alloc HB.out (.cells #[.int .i64 x2, .slice AQ3 y2.length cQ3] 56 (0, 0)))
  have nHT_ := Aside0.mk (Kd.R_alloc HT.out (.cells #[.int .i64 x2, .slice AQ3 y2.length cQ3] 56 (0, 0)))
  have nQ1_ := Aside0.mk (Kd.C_alloc Q1.out (.cells #[.int .i64 x2, .slice AQ3 y2.length cQ3] 56 (0, 0)))
  have nK1_ := Aside0.mk (blk_alloc K1.out (.cells #[.int .i64 x2, .slice AQ3 y2.length cQ3] 56 (0, 0)))
  have nQ2_ := Aside0.mk (Kd.C_alloc Q2.out (.cells #[.int .i64 x2, .slice AQ3 y2.length cQ3] 56 (0, 0)))
  have nK2_ := Aside0.mk (blk_alloc K2.out (.cells #[.int .i64 x2, .slice AQ3 y2.length cQ3] 56 (0, 0)))
  have nKT_ := Aside0.mk (blk_alloc KT.out (.cells #[.int .i64 x2, .slice AQ3 y2.length cQ3] 56 (0, 0)))
  have nKU_ := Aside0.mk (blk_alloc KU.out (.cells #[.int .i64 x2, .slice AQ3 y2.length cQ3] 56 (0, 0)))
  have nQ3_ := Aside0.mk (Kd.C_alloc Q3.out (.cells #[.int .i64 x2, .slice AQ3 y2.length cQ3] 56 (0, 0)))
  clear HB HT Q1 K1 Q2 K2 KT KU Q3
  have HB := nHB_; have HT := nHT_; have Q1 := nQ1_; have K1 := nK1_; have Q2 := nQ2_; have K2 := nK2_; have KT := nKT_; have KU := nKU_; have Q3 := nQ3_
  clear nHB_ nHT_ nQ1_ nK1_ nQ2_ nK2_ nKT_ nKU_ nQ3_
  have K3 := xK3; clear xK3
  clear qT0 qT1 qU0 qU1
  have qKU0 := (blk_cell KU.out 0).trans rfl; have qKU1 := (blk_cell KU.out 1).trans rfl
  gi_wp2_with fail
  refine ⟨trivial, ?_⟩; gi_at_call 50
  refine (callsIn_wide.2 (sloperef3_Turn.calls k4 n _ _ l _ _ _ _ (Kd.C_below HC.out HB.out) hc_l H4.out)).mono ?_
  rintro e w5 ⟨vt, rfl, ho, hb⟩
  obtain ⟨AQ4, cQ4, et⟩ := Kd.S_slice ho
  subst et
  have lQ4 := Aside0.mk (Kd.S_reads' ho).2.1; have mQ4 := Aside0.mk (Kd.S_reads' ho).2.2
  clear ho
  have nHB_ := Aside0.mk (below_step HB.out hb)
  have nHT_ := Aside0.mk (Kd.R_below HT.out hb)
  have nQ1_ := Aside0.mk (Kd.C_below Q1.out hb)
  have nK1_ := Aside0.mk (blk_below K1.out hb)
  have nQ2_ := Aside0.mk (Kd.C_below Q2.out hb)
  have nK2_ := Aside0.mk (blk_below K2.out hb)
  have nKT_ := Aside0.mk (blk_below KT.out hb)
  have nKU_ := Aside0.mk (blk_below KU.out hb)
  have nQ3_ := Aside0.mk (Kd.C_below Q3.out hb)
  have nK3_ := Aside0.mk (blk_below K3.out hb)
  clear HB HT Q1 K1 Q2 K2 KT KU Q3 K3
  have HB := nHB_; have HT := nHT_; have Q1 := nQ1_; have K1 := nK1_; have Q2 := nQ2_; have K2 := nK2_; have KT := nKT_; have KU := nKU_; have Q3 := nQ3_; have K3 := nK3_
  clear nHB_ nHT_ nQ1_ nK1_ nQ2_ nK2_ nKT_ nKU_ nQ3_ nK3_
  have Q4 := mQ4; clear mQ4
  have xK4 := Aside0.mk (blk_new w5 (.cells #[.int .i64 x2, .slice AQ4 y2.length cQ4] 56 (0, 0)))
  clear hb
  have nHB_ := Aside0.mk (below_alloc HB.out (.cells #[.int .i64 x2, .slice AQ4 y2.length cQ4] 56 (0, 0)))
  have nHT_ := Aside0.mk (Kd.R_alloc HT.out (.cells #[.int .i64 x2, .slice AQ4 y2.length cQ4] 56 (0, 0)))
  have nQ1_ := Aside0.mk (Kd.C_alloc Q1.out (.cells #[.int .i64 x2, .slice AQ4 y2.length cQ4] 56 (0, 0)))
  have nK1_ := Aside0.mk (blk_alloc K1.out (.cells #[.int .i64 x2, .slice AQ4 y2.length cQ4] 56 (0, 0)))
  have nQ2_ := Aside0.mk (Kd.C_alloc Q2.out (.cells #[.int .i64 x2, .slice AQ4 y2.length cQ4] 56 (0, 0)))
  have nK2_ := Aside0.mk (blk_alloc K2.out (.cells #[.int .i64 x2, .slice AQ4 y2.length cQ4] 56 (0, 0)))
  have nKT_ := Aside0.mk (blk_alloc KT.out (.cells #[.int .i64 x2, .slice AQ4 y2.length cQ4] 56 (0, 0)))
  have nKU_ := Aside0.mk (blk_alloc KU.out (.cells #[.int .i64 x2, .slice AQ4 y2.length cQ4] 56 (0, 0)))
  have nQ3_ := Aside0.mk (Kd.C_alloc Q3.out (.cells #[.int .i64 x2, .slice AQ4 y2.length cQ4] 56 (0, 0)))
  have nK3_ := Aside0.mk (blk_alloc K3.out (.cells #[.int .i64 x2, .slice AQ4 y2.length cQ4] 56 (0, 0)))
  have nQ4_ := Aside0.mk (Kd.C_alloc Q4.out (.cells #[.int .i64 x2, .slice AQ4 y2.length cQ4] 56 (0, 0)))
  clear HB HT Q1 K1 Q2 K2 KT KU Q3 K3 Q4
  have HB := nHB_; have HT := nHT_; have Q1 := nQ1_; have K1 := nK1_; have Q2 := nQ2_; have K2 := nK2_; have KT := nKT_; have KU := nKU_; have Q3 := nQ3_; have K3 := nK3_; have Q4 := nQ4_
  clear nHB_ nHT_ nQ1_ nK1_ nQ2_ nK2_ nKT_ nKU_ nQ3_ nK3_ nQ4_
  have K4 := xK4; clear xK4
  clear qKU0 qKU1
  have qKT0 := (blk_cell KT.out 0).trans rfl; have qKT1 := (blk_cell KT.out 1).trans rfl
  gi_wp2_with fail
  refine ⟨trivial, ?_⟩; gi_at_call 51
  refine (callsIn_wide.2 (H5.out _ _ _ (tws_reads (Kd.R_reads' HT.out).2.2) lT.out)).mono ?_
  rintro e w6 ⟨vt, rfl, ho, hb⟩
  obtain ⟨AQ5, cQ5, et⟩ := Kd.R_slice ho
  subst et
  have lQ5 := Aside0.mk (Kd.R_reads' ho).2.1; have mQ5 := Aside0.mk (Kd.R_reads' ho).2.2
  clear ho
  have nHB_ := Aside0.mk (below_step HB.out hb)
  have nHT_ := Aside0.mk (Kd.R_below HT.out hb)
  have nQ1_ := Aside0.mk (Kd.C_below Q1.out hb)
  have nK1_ := Aside0.mk (blk_below K1.out hb)
  have nQ2_ := Aside0.mk (Kd.C_below Q2.out hb)
  have nK2_ := Aside0.mk (blk_below K2.out hb)
  have nKT_ := Aside0.mk (blk_below KT.out hb)
  have nKU_ := Aside0.mk (blk_below KU.out hb)
  have nQ3_ := Aside0.mk (Kd.C_below Q3.out hb)
  have nK3_ := Aside0.mk (blk_below K3.out hb)
  have nQ4_ := Aside0.mk (Kd.C_below Q4.out hb)
  have nK4_ := Aside0.mk (blk_below K4.out hb)
  clear HB HT Q1 K1 Q2 K2 KT KU Q3 K3 Q4 K4
  have HB := nHB_; have HT := nHT_; have Q1 := nQ1_; have K1 := nK1_; have Q2 := nQ2_; have K2 := nK2_; have KT := nKT_; have KU := nKU_; have Q3 := nQ3_; have K3 := nK3_; have Q4 := nQ4_; have K4 := nK4_
  clear nHB_ nHT_ nQ1_ nK1_ nQ2_ nK2_ nKT_ nKU_ nQ3_ nK3_ nQ4_ nK4_
  have Q5 := mQ5; clear mQ5 hb
  clear qKT0 qKT1
  have qKU0 := (blk_cell KU.out 0).trans rfl; have qKU1 := (blk_cell KU.out 1).trans rfl
  gi_wp2_with fail
  refine ⟨trivial, ?_⟩; gi_at_call 52
  refine (callsIn_wide.2 (sloperef3_Firsts.calls k6 n _ _ l _ _ _ (Kd.C_below HC.out HB.out) hc_l H6.out)).mono ?_
  rintro e w7 ⟨vt, rfl, ho, hb⟩
  obtain ⟨AQ6, cQ6, et⟩ := Kd.R_slice ho
  subst et
  have lQ6 := Aside0.mk (Kd.R_reads' ho).2.1; have mQ6 := Aside0.mk (Kd.R_reads' ho).2.2
  clear ho
  have nHB_ := Aside0.mk (below_step HB.out hb)
  have nHT_ := Aside0.mk (Kd.R_below HT.out hb)
  have nQ1_ := Aside0.mk (Kd.C_below Q1.out hb)
  have nK1_ := Aside0.mk (blk_below K1.out hb)
  have nQ2_ := Aside0.mk (Kd.C_below Q2.out hb)
  have nK2_ := Aside0.mk (blk_below K2.out hb)
  have nKT_ := Aside0.mk (blk_below KT.out hb)
  have nKU_ := Aside0.mk (blk_below KU.out hb)
  have nQ3_ := Aside0.mk (Kd.C_below Q3.out hb)
  have nK3_ := Aside0.mk (blk_below K3.out hb)
  have nQ4_ := Aside0.mk (Kd.C_below Q4.out hb)
  have nK4_ := Aside0.mk (blk_below K4.out hb)
  have nQ5_ := Aside0.mk (Kd.C_below Q5.out hb)
  clear HB HT Q1 K1 Q2 K2 KT KU Q3 K3 Q4 K4 Q5
  have HB := nHB_; have HT := nHT_; have Q1 := nQ1_; have K1 := nK1_; have Q2 := nQ2_; have K2 := nK2_; have KT := nKT_; have KU := nKU_; have Q3 := nQ3_; have K3 := nK3_; have Q4 := nQ4_; have K4 := nK4_; have Q5 := nQ5_
  clear nHB_ nHT_ nQ1_ nK1_ nQ2_ nK2_ nKT_ nKU_ nQ3_ nK3_ nQ4_ nK4_ nQ5_
  have Q6 := mQ6; clear mQ6 hb
  clear qKU0 qKU1
  have qK10 := (blk_cell K1.out 0).trans rfl; have qK11 := (blk_cell K1.out 1).trans rfl
  have qK20 := (blk_cell K2.out 0).trans rfl; have qK21 := (blk_cell K2.out 1).trans rfl
  gi_wp2_with fail
  refine ⟨trivial, ?_⟩; gi_at_call 44
  refine (callsIn_wide.2 (slopelaw3_sameTable.calls s1 x1 _ _ y1 x1 _ _ y1 _ _ Q1.out lQ1.out Q2.out lQ2.out S1.out)).mono ?_
  rintro e w8 ⟨rfl, hb⟩
  clear qK10 qK11 qK20 qK21
  have nHB_ := Aside0.mk (below_step HB.out hb)
  have nHT_ := Aside0.mk (Kd.R_below HT.out hb)
  have nKT_ := Aside0.mk (blk_below KT.out hb)
  have nKU_ := Aside0.mk (blk_below KU.out hb)
  have nQ3_ := Aside0.mk (Kd.C_below Q3.out hb)
  have nK3_ := Aside0.mk (blk_below K3.out hb)
  have nQ4_ := Aside0.mk (Kd.C_below Q4.out hb)
  have nK4_ := Aside0.mk (blk_below K4.out hb)
  have nQ5_ := Aside0.mk (Kd.C_below Q5.out hb)
  have nQ6_ := Aside0.mk (Kd.C_below Q6.out hb)
  clear HB HT KT KU Q3 K3 Q4 K4 Q5 Q6 K1 K2 Q1 Q2
  have HB := nHB_; have HT := nHT_; have KT := nKT_; have KU := nKU_; have Q3 := nQ3_; have K3 := nK3_; have Q4 := nQ4_; have K4 := nK4_; have Q5 := nQ5_; have Q6 := nQ6_
  clear nHB_ nHT_ nKT_ nKU_ nQ3_ nK3_ nQ4_ nK4_ nQ5_ nQ6_
  clear hb
  gi_wp2_with fail
  refine ⟨trivial, ?_⟩; gi_at_call 21
  refine (callsIn_wide.2 (slopelaw3_num.calls e1 e1 _ rfl)).mono ?_
  rintro e w9 ⟨rfl, hd⟩
  have hb := hd.below; clear hd
  have nHB_ := Aside0.mk (below_step HB.out hb)
  have nHT_ := Aside0.mk (Kd.R_below HT.out hb)
  have nKT_ := Aside0.mk (blk_below KT.out hb)
  have nKU_ := Aside0.mk (blk_below KU.out hb)
  have nQ3_ := Aside0.mk (Kd.C_below Q3.out hb)
  have nK3_ := Aside0.mk (blk_below K3.out hb)
  have nQ4_ := Aside0.mk (Kd.C_below Q4.out hb)
  have nK4_ := Aside0.mk (blk_below K4.out hb)
  have nQ5_ := Aside0.mk (Kd.C_below Q5.out hb)
  have nQ6_ := Aside0.mk (Kd.C_below Q6.out hb)
  clear HB HT KT KU Q3 K3 Q4 K4 Q5 Q6
  have HB := nHB_; have HT := nHT_; have KT := nKT_; have KU := nKU_; have Q3 := nQ3_; have K3 := nK3_; have Q4 := nQ4_; have K4 := nK4_; have Q5 := nQ5_; have Q6 := nQ6_
  clear nHB_ nHT_ nKT_ nKU_ nQ3_ nK3_ nQ4_ nK4_ nQ5_ nQ6_
  clear hb
  have qK30 := (blk_cell K3.out 0).trans rfl; have qK31 := (blk_cell K3.out 1).trans rfl
  have qK40 := (blk_cell K4.out 0).trans rfl; have qK41 := (blk_cell K4.out 1).trans rfl
  gi_wp2_with fail
  refine ⟨trivial, ?_⟩; gi_at_call 44
  refine (callsIn_wide.2 (slopelaw3_sameTable.calls s2 x2 _ _ y2 x2 _ _ y2 _ _ Q3.out lQ3.out Q4.out lQ4.out S2.out)).mono ?_
  rintro e w10 ⟨rfl, hb⟩
  clear qK30 qK31 qK40 qK41
  have nHB_ := Aside0.mk (below_step HB.out hb)
  have nHT_ := Aside0.mk (Kd.R_below HT.out hb)
  have nKT_ := Aside0.mk (blk_below KT.out hb)
  have nKU_ := Aside0.mk (blk_below KU.out hb)
  have nQ5_ := Aside0.mk (Kd.C_below Q5.out hb)
  have nQ6_ := Aside0.mk (Kd.C_below Q6.out hb)
  clear HB HT KT KU Q5 Q6 K3 K4 Q3 Q4
  have HB := nHB_; have HT := nHT_; have KT := nKT_; have KU := nKU_; have Q5 := nQ5_; have Q6 := nQ6_
  clear nHB_ nHT_ nKT_ nKU_ nQ5_ nQ6_
  clear hb
  gi_wp2_with fail
  refine ⟨trivial, ?_⟩; gi_at_call 21
  refine (callsIn_wide.2 (slopelaw3_num.calls e2 e2 _ rfl)).mono ?_
  rintro e w11 ⟨rfl, hd⟩
  have hb := hd.below; clear hd
  have nHB_ := Aside0.mk (below_step HB.out hb)
  have nHT_ := Aside0.mk (Kd.R_below HT.out hb)
  have nKT_ := Aside0.mk (blk_below KT.out hb)
  have nKU_ := Aside0.mk (blk_below KU.out hb)
  have nQ5_ := Aside0.mk (Kd.C_below Q5.out hb)
  have nQ6_ := Aside0.mk (Kd.C_below Q6.out hb)
  clear HB HT KT KU Q5 Q6
  have HB := nHB_; have HT := nHT_; have KT := nKT_; have KU := nKU_; have Q5 := nQ5_; have Q6 := nQ6_
  clear nHB_ nHT_ nKT_ nKU_ nQ5_ nQ6_
  clear hb
  gi_wp2_with fail
  refine ⟨trivial, ?_⟩; gi_at_call 38
  refine (callsIn_wide.2 (slopelaw3_sameInts.calls s3 _ _ r _ _ r true _ Q5.out lQ5.out Q6.out lQ6.out S3.out)).mono ?_
  rintro e w12 ⟨rfl, hd⟩
  have hb := hd.below; clear hd
  have nHB_ := Aside0.mk (below_step HB.out hb)
  have nHT_ := Aside0.mk (Kd.R_below HT.out hb)
  have nKT_ := Aside0.mk (blk_below KT.out hb)
  have nKU_ := Aside0.mk (blk_below KU.out hb)
  clear HB HT KT KU Q5 Q6
  have HB := nHB_; have HT := nHT_; have KT := nKT_; have KU := nKU_
  clear nHB_ nHT_ nKT_ nKU_
  clear hb
  gi_wp2_with fail
  refine ⟨trivial, ?_⟩; gi_at_call 21
  refine (callsIn_wide.2 (slopelaw3_num.calls e3 e3 _ rfl)).mono ?_
  rintro e w13 ⟨rfl, hd⟩
  have hb := hd.below; clear hd
  have nHB_ := Aside0.mk (below_step HB.out hb)
  have nHT_ := Aside0.mk (Kd.R_below HT.out hb)
  have nKT_ := Aside0.mk (blk_below KT.out hb)
  have nKU_ := Aside0.mk (blk_below KU.out hb)
  clear HB HT KT KU
  have HB := nHB_; have HT := nHT_; have KT := nKT_; have KU := nKU_
  clear nHB_ nHT_ nKT_ nKU_
  clear hb
  gi_wp2_with fail
  refine ⟨trivial, ?_⟩; gi_at_call 53
  refine (callsIn_wide.2 (keptAll_marked gHT capHT l A0 c0 _ (Kd.R_reads' HT.out).2.2 (Kd.R_reads' HT.out).2.1 (Kd.C_below HC.out HB.out) hc_l)).mono ?_
  rintro e w14 ⟨rfl, hb⟩
  have nHB_ := Aside0.mk (below_step HB.out hb)
  have nKT_ := Aside0.mk (blk_below KT.out hb)
  have nKU_ := Aside0.mk (blk_below KU.out hb)
  clear HB KT KU HT
  have HB := nHB_; have KT := nKT_; have KU := nKU_
  clear nHB_ nKT_ nKU_
  clear hb
  gi_wp2_with fail
  refine bodyPost_ret (v := .bool true) ?_ rfl ⟨rfl, HB.out⟩
  simp [results, Tryd.f8, go_sem]
theorem BitTables_calls (n : Int) (A0 : Option Addr) (c0 : Nat) (l : List S24) (w : World) (hr0 : Kd.C k24 w A0 l.length l) (hc0 : l.length ≤ c0) (hG : Tz w) (hn0 : l.length * 32 ≤ 140737488351232) (he0 : ∀ x ∈ l, x.f1.length * 8 ≤ 140737488351232) (hg0 : Goods l) :
    Calls Tryd.prog 8 #[.int .i64 n, .slice A0 l.length c0] w fun e w' => e = .returned (.bool true) ∧ Below w.heap.size w w' := by
  obtain ⟨x1, y1, e1, ⟨k1, h1⟩, ⟨k2, h2⟩, s1, t1⟩ := Makes_alike n l (by omega) hg0
  obtain ⟨x2, y2, e2, ⟨k3, h3⟩, ⟨k4, h4⟩, s2, t2⟩ := Turns_alike n l (by omega) hg0
  obtain ⟨r, e3, hr, ⟨k6, h6⟩, h5⟩ := Firsts_alike n l (by omega) hg0
  obtain ⟨s3, t3⟩ := same_ints r (by omega)
  exact BitTables_walk k1 k2 k3 k4 k6 s1 s2 s3 n A0 c0 l w hr0 hc0 hG hn0 he0 x1 x2 e1 e2 e3 y1 y2 r (h1 k1 (Nat.le_refl _)) (h2 k2 (Nat.le_refl _)) (h3 k3 (Nat.le_refl _)) (h4 k4 (Nat.le_refl _)) h5 (h6 k6 (Nat.le_refl _)) (t1 s1 (Nat.le_refl _)) (t2 s2 (Nat.le_refl _)) t3
end Go.Proofs.YtjmkhdhffmlhiaaDoor.PAll
end
