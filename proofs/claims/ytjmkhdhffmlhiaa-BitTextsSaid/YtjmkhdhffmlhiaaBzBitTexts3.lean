import Derived.Test.YtjmkhdhffmlhiaaBzBitTexts2
section
namespace Go.Proofs.Ytjmkhdhffmlhiaa.PAll
open Go.RowKit Go.Proofs.YtjmkhdhffmlhiaaW.PrintWords Go.Proofs.YtjmkhdhffmlhiaaW.PrintLast Go.Proofs.YtjmkhdhffmlhiaaW.PrintMore
attribute [local go_sem] max2_int min2_int max_two min_two max_three min_three max_four min_four w64_u8 w64_mod256   -- for this text's walks alone
set_option linter.unusedVariables false
set_option linter.unusedSimpArgs false
def sloperef3_Of.l0 : Nat → List Bool → Int → Int → List Int → Option (Int × List Int)
  | 0, _, _, _, _ => none
  | k + 1, x0, x4, x106000, x106001 => if x4 < (x0.length : Int) then (if 0 ≤ x4 then (if rdOf false x0 x4 = true then (if 0 ≤ (wrap64 (Int.tdiv x4 64)) then (if (wrap64 (Int.tdiv x4 64)) < (x106001.length : Int) then (if 0 ≤ (IntKind.u64.wrap (Int.tmod x4 64)) then (sloperef3_Of.l0 k x0 (wrap64 (x4 + 1)) x106000 (x106001.set ((wrap64 (Int.tdiv x4 64)) : Int).toNat (Go.bits .or .u64 (rd x106001 (wrap64 (Int.tdiv x4 64))) (shl .u64 1 (IntKind.u64.wrap (Int.tmod x4 64)))))) else (none)) else (none)) else (none)) else (sloperef3_Of.l0 k x0 (wrap64 (x4 + 1)) x106000 x106001)) else (none)) else (some (x106000, x106001))
def sloperef3_Of.f (k : Nat) (l0 : List Bool) : Option (Int × List Int) := if 0 ≤ (wrap64 (Int.tdiv (wrap64 ((l0.length : Int) + 63)) 64)) then (if (wrap64 (Int.tdiv (wrap64 ((l0.length : Int) + 63)) 64) : Int).toNat ≤ 35184372088832 then (sloperef3_Of.l0 k l0 0 (l0.length : Int) (List.replicate (wrap64 (Int.tdiv (wrap64 ((l0.length : Int) + 63)) 64) : Int).toNat 0)) else (none)) else (none)
theorem sloperef3_Of.mono_l : ∀ k, (∀ y0 y1 y2 y3, LeO (sloperef3_Of.l0 k y0 y1 y2 y3) (sloperef3_Of.l0 (k + 1) y0 y1 y2 y3))
  | 0 => fun _ _ _ _ r h => by simp [sloperef3_Of.l0] at h
  | k + 1 => by
    have ih0 := sloperef3_Of.mono_l k
    · intro y0 y1 y2 y3
      unfold sloperef3_Of.l0
      repeat' first
      | (with_reducible exact ih0 _ _ _ _)
      | (with_reducible exact LeO.refl _)
      | (with_reducible exact LeO.none _)
      | (with_reducible refine LeO.ite ?_ ?_)
      | (with_reducible refine LeO.bind ?_ (fun _ => ?_))
      | exact ih0 _ _ _ _
      | exact LeO.none _
      | refine LeO.ite ?_ ?_
      | refine LeO.bind ?_ (fun _ => ?_)
theorem sloperef3_Of.mono : ∀ a0 k, LeO (sloperef3_Of.f k a0) (sloperef3_Of.f (k + 1) a0) := by
  intro a0 k
  have ih0 := sloperef3_Of.mono_l k
  unfold sloperef3_Of.f
  repeat' first
      | (with_reducible exact ih0 _ _ _ _)
      | (with_reducible exact LeO.refl _)
      | (with_reducible exact LeO.none _)
      | (with_reducible refine LeO.ite ?_ ?_)
      | (with_reducible refine LeO.bind ?_ (fun _ => ?_))
      | exact ih0 _ _ _ _
      | exact LeO.none _
      | refine LeO.ite ?_ ?_
      | refine LeO.bind ?_ (fun _ => ?_)
def sloperef3_Of.T6 : Bool × List (List Nat × List Nat) := (true, [([], []), ([0], [0]), ([], []), ([2], [2]), ([], []), ([4], [4]), ([], []), ([6], [6]), ([5, 7], [5, 7]), ([8], [8]), ([], []), ([10], [10]), ([11], [11]), ([12], [12]), ([9, 13], [9, 13]), ([1, 3, 0, 1, 2, 3, 4, 5, 6, 7, 8, 9, 10, 11, 12, 13, 14], [1, 3]), ([15, 14, 0, 1, 2, 3, 4, 5, 6, 7, 8, 9, 10, 11, 12, 13, 14], [14, 15])])
def sloperef3_Of.B6 : List Nat := [0, 1, 0, 4, 0, 16, 0, 64, 240, 496, 0, 1024, 3072, 7168, 16368, 32767, 65535]
theorem sloperef3_Of.tab6 : rtab .any (opsOf Try.f61 6) = sloperef3_Of.T6 := by kernel_rfl
theorem sloperef3_Of.bits6 : waitsOk sloperef3_Of.T6.2 sloperef3_Of.B6 = true := by kernel_rfl
set_option maxHeartbeats 8000000 in
set_option maxRecDepth 100000 in
theorem sloperef3_Of.calls (k : Nat) (A0 : Option Addr) (c0 : Nat) (l0 : List Bool) (r1 : Int) (r2 : List Int) (w : World) (hr0 : Kd.C Kd.bool w A0 l0.length l0) (hc0 : l0.length ≤ c0) (h : sloperef3_Of.f k l0 = some (r1, r2)) :
    Calls Try.prog 61 #[.slice A0 l0.length c0] w fun e w' => ∃ v1_ : Value, e = .returned (.agg #[.int .i64 r1, v1_]) ∧ Kd.R (Kd.int .u64) 82 w' w.heap.size (fun _ => True) v1_ r2 ∧ Below w.heap.size w w' := by
  have hu26 := Try.underlying26
  have HR0 := Aside0.mk hr0
  have HC0 := Aside0.mk hc0
  clear hr0 hc0
  have HB := Aside0.mk (Below.refl w.heap.size w)
  have H : (if 0 ≤ (wrap64 (Int.tdiv (wrap64 ((l0.length : Int) + 63)) 64)) then (if (wrap64 (Int.tdiv (wrap64 ((l0.length : Int) + 63)) 64) : Int).toNat ≤ 35184372088832 then (sloperef3_Of.l0 k l0 0 (l0.length : Int) (List.replicate (wrap64 (Int.tdiv (wrap64 ((l0.length : Int) + 63)) 64) : Int).toNat 0)) else (none)) else (none)) = some (r1, r2) := h
  clear h
  obtain ⟨ji2, hji2⟩ : ∃ j_ : Int, (wrap64 (Int.tdiv (wrap64 ((l0.length : Int) + 63)) 64)) = j_ := ⟨_, rfl⟩
  replace H : (if 0 ≤ (ji2) then (if (ji2 : Int).toNat ≤ 35184372088832 then (sloperef3_Of.l0 k l0 0 (l0.length : Int) (List.replicate (ji2 : Int).toNat 0)) else (none)) else (none)) = some (r1, r2) := by first | (rw [hji2] at H; exact H) | (simp only [hji2] at H ⊢; exact H)
  have hji2w : (IntKind.i64.wrap (Int.tdiv (wrap64 ((l0.length : Int) + 63)) 64)) = ji2 := (i64_w _).trans hji2
  by_cases c3 : 0 ≤ (ji2)
  · rw [if_pos c3] at H
    have c3b0 := eq_true c3
    have c3b1 : decide (0 ≤ (ji2)) = true := decide_eq_true c3
    clear c3
    by_cases c4 : (ji2 : Int).toNat ≤ 35184372088832
    · rw [if_pos c4] at H
      have c4b0 := eq_true c4
      have c4b1 : decide ((ji2 : Int).toNat ≤ 35184372088832) = true := decide_eq_true c4
      clear c4
      obtain ⟨y102, hy102⟩ : ∃ y_ : List Int, y_ = (List.replicate (ji2 : Int).toNat 0) := ⟨_, rfl⟩
      replace H : (sloperef3_Of.l0 k l0 0 (l0.length : Int) y102) = some (r1, r2) := by first | (rw [hy102]; with_reducible exact H) | (have H2_ := (Option.bind_some _ _).symm.trans H; rw [hy102]; with_reducible exact H2_) | (have H2_ := (Option.bind_some _ _).symm.trans H; with_reducible exact H2_) | with_reducible exact H | (rw [hy102]; exact H) | exact H
      have Ny102 := Aside0.mk hy102
      clear hy102
      have H' := Aside0.mk H
      clear H
      go_enter Try.func61, Try.ntmps61
      go_wp2_with (first | ((with_reducible refine gate_dst (N := 2) rfl ?_); refine box_event ?hg (N := 2) ?hd (cs := #[.int .i64 0, .slice none 0 0]) (t := 26) ?hr ?_; (case hd => rfl); (case hg => rfl); (case hr => first | (go_simp; done) | (go_simp; rfl)); intro gb101 hg w5 hbox hb; have n0_ := Aside0.mk (below_step (by repeat (first | (with_reducible first | exact HB.out | apply below_alloc | apply pw_below_drewN | apply below_drew1) | exact HB.out)) hb); have n1_ := Aside0.mk (hbox); have n2_ := Aside0.mk ((by rw [hg]; exact (below_size (by repeat (first | (with_reducible first | exact HB.out | apply below_alloc | apply pw_below_drewN | apply below_drew1) | exact HB.out))) : w.heap.size ≤ gb101)); have n3_ := Aside0.mk ((by rw [hg]; exact (below_size (by repeat (first | (with_reducible first | exact HB.out | apply below_alloc | apply pw_below_drewN | apply below_drew1) | exact HB.out))) : w.heap.size ≤ gb101)); clear HB; have HB := n0_; have BK101 := n1_; have GW101 := n2_; have GE101 := n3_; clear n0_ n1_ n2_ n3_; clear hb hbox hg) | ((with_reducible refine gate_dst (N := 11) rfl ?_); refine Kd.R_make (Kd.int .u64) _ 82 rfl (N := 11) rfl 24 _ _ rfl ji2 rfl rfl Try.underlying24 (.int .u64 0) 8 info82 rfl (by decide) (by omega) 0 (ok := fun _ => True) (okp := fun _ => True) rfl (fun _ hk => hk) trivial (of_decide_eq_true (by first | (with_reducible assumption) | assumption)) (Nat.le_trans (Nat.mul_le_mul_right _ (of_decide_eq_true (by first | (with_reducible assumption) | assumption) : ji2.toNat ≤ 35184372088832)) (by omega)) (Below.refl _ _) (Nat.le_refl _) ?_; intro v103 w6 ho7 hb hg_ hnew_; clear hg_ hnew_; (first | rw [← Ny102.out] at ho7 | (simp only [Int.reduceToNat] at ho7; rw [← Ny102.out] at ho7)); have n0_ := Aside0.mk (Kd.R_lower ho7 (below_size (by repeat (first | (with_reducible first | exact HB.out | apply below_alloc | apply pw_below_drewN | apply below_drew1 | refine below_set ?_ GE101.out) | exact HB.out)))); have n1_ := Aside0.mk (blk_below (g := gb101) (o := .cells #[.int .i64 0, .slice none 0 0] 26 (0, 0)) (by (with_reducible repeat (first | refine blk_drewN ?_ _ | refine blk_drew ?_ | refine blk_alloc ?_ _)); exact BK101.out) hb); have n2_ := Aside0.mk (below_step (by repeat (first | (with_reducible first | exact HB.out | apply below_alloc | apply pw_below_drewN | apply below_drew1 | refine below_set ?_ GE101.out) | exact HB.out)) hb); clear BK101; clear HB; have HO104 := n0_; have BK101 := n1_; have HB := n2_; clear n0_ n1_ n2_; clear hb ho7; obtain ⟨Ao8, co8, eo8⟩ := Kd.R_slice HO104.out; subst eo8) | ((with_reducible refine gate_dst (N := 3) rfl ?_); refine box_event ?hg (N := 3) ?hd (cs := #[.int .i64 0, .slice none 0 0]) (t := 26) ?hr ?_; (case hd => rfl); (case hg => rfl); (case hr => first | (go_simp; done) | (go_simp; rfl)); intro gb105 hg w9 hbox hb; have n0_ := Aside0.mk (Kd.R_below (by (with_reducible repeat (first | apply Kd.R_alloc | apply Kd.R_drewN | apply Kd.R_drew)); exact HO104.out) hb); have n1_ := Aside0.mk (blk_below (g := gb101) (o := .cells #[.int .i64 0, .slice none 0 0] 26 (0, 0)) (by (with_reducible repeat (first | refine blk_drewN ?_ _ | refine blk_drew ?_ | refine blk_alloc ?_ _)); exact BK101.out) hb); have n2_ := Aside0.mk (below_step (by repeat (first | (with_reducible first | exact HB.out | apply below_alloc | apply pw_below_drewN | apply below_drew1 | refine below_set ?_ GE101.out) | exact HB.out)) hb); have n3_ := Aside0.mk (hbox); have n4_ := Aside0.mk ((by rw [hg]; exact (below_size (by repeat (first | (with_reducible first | exact HB.out | apply below_alloc | apply pw_below_drewN | apply below_drew1 | refine below_set ?_ GE101.out) | exact HB.out))) : w.heap.size ≤ gb105)); have n5_ := Aside0.mk ((by rw [hg]; exact (below_size (by repeat (first | (with_reducible first | exact HB.out | apply below_alloc | apply pw_below_drewN | apply below_drew1 | refine below_set ?_ GE101.out) | exact HB.out))) : w.heap.size ≤ gb105)); have n6_ := Aside0.mk ((by rw [hg]; exact Nat.ne_of_lt (blk_lt (g := gb101) (o := .cells #[.int .i64 0, .slice none 0 0] 26 (0, 0)) (by (with_reducible repeat (first | refine blk_drewN ?_ _ | refine blk_drew ?_ | refine blk_alloc ?_ _)); exact BK101.out)) : gb101 ≠ gb105)); have n7_ := Aside0.mk ((by rw [hg]; exact Nat.ne_of_gt (blk_lt (g := gb101) (o := .cells #[.int .i64 0, .slice none 0 0] 26 (0, 0)) (by (with_reducible repeat (first | refine blk_drewN ?_ _ | refine blk_drew ?_ | refine blk_alloc ?_ _)); exact BK101.out)) : gb105 ≠ gb101)); clear HO104; clear BK101; clear HB; have HO104 := n0_; have BK101 := n1_; have HB := n2_; have BK105 := n3_; have GW105 := n4_; have GE105 := n5_; have NB101_105 := n6_; have NB105_101 := n7_; clear n0_ n1_ n2_ n3_ n4_ n5_ n6_ n7_; clear hb hbox hg; have hnb10 := NB105_101.out; have hnc10 := NB101_105.out; have hcz11_0 : w9.cell? ⟨gb105, 0, none⟩ = some (.int .i64 0) := (blk_cell BK105.out 0).trans rfl; have hcz11_1 : w9.cell? ⟨gb105, 1, none⟩ = some (.slice none 0 0) := (blk_cell BK105.out 1).trans rfl; have hfz11_0 := blk_frozen BK105.out 0; have hfz11_1 := blk_frozen BK105.out 1))
      go_loopg [4] k (fun kq v4 w' => ∃ (x4_1 : Int) (x106001_1 : List Int) (u106001 : Value), v4 = .int .i64 x4_1 ∧ Aside0 (sloperef3_Of.l0 kq l0 x4_1 (l0.length : Int) x106001_1 = some (r1, r2)) ∧ Aside0 (kq ≤ k) ∧ Aside0 (Kd.R (Kd.int .u64) 82 w' w.heap.size (fun _ => True) u106001 x106001_1) ∧ Aside0 (w'.heap[gb101]? = some (.cells #[.int .i64 0, (.slice none 0 0)] 26 (0, 0))) ∧ Aside0 (w'.heap[gb105]? = some (.cells #[.int .i64 (l0.length : Int), u106001] 26 (0, 0))) ∧ Aside0 (Below w.heap.size w w'))
      case atStart => exact ⟨(0), (y102), (.slice Ao8 y102.length co8), (by first | rfl | (simp; done) | (simp [*]; done)), H', ⟨Nat.le_refl _⟩, ⟨by (with_reducible repeat (first | apply Kd.R_alloc | apply Kd.R_drewN | apply Kd.R_drew)); exact Kd.R_mono (Kd.R_far (p := ⟨gb105, 1, none⟩) (Kd.R_far (p := ⟨gb105, 0, none⟩) (Kd.R_types HO104.out BK105.out (by decide)) (fun _ hk => hk.2) (.int .i64 (l0.length : Int))) (fun _ hk => hk.2) (.slice Ao8 y102.length co8)) (fun _ hk => trivial)⟩, ⟨by (with_reducible repeat (first | refine blk_drewN ?_ _ | refine blk_drew ?_ | refine blk_alloc ?_ _)); refine blk_far ?_ NB101_105.out _; (with_reducible repeat (first | refine blk_drewN ?_ _ | refine blk_drew ?_ | refine blk_alloc ?_ _)); refine blk_far ?_ NB101_105.out _; (with_reducible repeat (first | refine blk_drewN ?_ _ | refine blk_drew ?_ | refine blk_alloc ?_ _)); exact BK101.out⟩, ⟨by (with_reducible repeat (first | refine blk_drewN ?_ _ | refine blk_drew ?_ | refine blk_alloc ?_ _)); refine blk_put (cs := #[.int .i64 (l0.length : Int), .slice none 0 0]) ?_ 1 _ rfl; (with_reducible repeat (first | refine blk_drewN ?_ _ | refine blk_drew ?_ | refine blk_alloc ?_ _)); refine blk_put (cs := #[.int .i64 0, .slice none 0 0]) ?_ 0 _ rfl; (with_reducible repeat (first | refine blk_drewN ?_ _ | refine blk_drew ?_ | refine blk_alloc ?_ _)); exact BK105.out⟩, ⟨by repeat (first | (with_reducible first | exact HB.out | apply below_alloc | apply pw_below_drewN | apply below_drew1 | refine below_set ?_ GE101.out | refine below_set ?_ GE105.out) | exact HB.out)⟩⟩
      case round =>
        clear H'
        try clear c1
        try clear p2
        try clear c3
        try clear c3b0
        try clear c3b1
        try clear c4
        try clear c4b0
        try clear c4b1
        try clear c6
        try clear p6
        try clear c10
        try clear hcz11_0
        try clear hcz11_1
        try clear hfz11_0
        try clear hfz11_1
        obtain ⟨x4_1, x106001_1, u106001, rfl, HA, HK1, HO_106001, BK101, BK105, HB⟩ := hrel
        cases gk with
        | zero => exact absurd HA.out (by simp [sloperef3_Of.l0])
        | succ k1 =>
          have H := HA.out
          clear HA
          simp only [sloperef3_Of.l0] at H
          by_cases c12 : x4_1 < (l0.length : Int)
          · rw [if_pos c12] at H
            have c12b0 : decide (x4_1 < (l0.length : Int)) = true := decide_eq_true c12
            clear c12
            by_cases c13 : 0 ≤ x4_1
            · rw [if_pos c13] at H
              have c13b0 : decide (0 ≤ x4_1) = true := decide_eq_true c13
              clear c13
              obtain ⟨bq14, hbq14⟩ : ∃ b_ : Bool, b_ = (rdOf false l0 x4_1) := ⟨_, rfl⟩
              replace H : (if bq14 = true then (if 0 ≤ (wrap64 (Int.tdiv x4_1 64)) then (if (wrap64 (Int.tdiv x4_1 64)) < (x106001_1.length : Int) then (if 0 ≤ (IntKind.u64.wrap (Int.tmod x4_1 64)) then (sloperef3_Of.l0 k1 l0 (wrap64 (x4_1 + 1)) (l0.length : Int) (x106001_1.set ((wrap64 (Int.tdiv x4_1 64)) : Int).toNat (Go.bits .or .u64 (rd x106001_1 (wrap64 (Int.tdiv x4_1 64))) (shl .u64 1 (IntKind.u64.wrap (Int.tmod x4_1 64)))))) else (none)) else (none)) else (none)) else (sloperef3_Of.l0 k1 l0 (wrap64 (x4_1 + 1)) (l0.length : Int) x106001_1)) = some (r1, r2) := by rw [← hbq14] at H; exact H
              have Nbq14 := Aside0.mk hbq14
              clear hbq14
              by_cases c15 : bq14 = true
              · subst c15
                have H1 : (if 0 ≤ (wrap64 (Int.tdiv x4_1 64)) then (if (wrap64 (Int.tdiv x4_1 64)) < (x106001_1.length : Int) then (if 0 ≤ (IntKind.u64.wrap (Int.tmod x4_1 64)) then (sloperef3_Of.l0 k1 l0 (wrap64 (x4_1 + 1)) (l0.length : Int) (x106001_1.set ((wrap64 (Int.tdiv x4_1 64)) : Int).toNat (Go.bits .or .u64 (rd x106001_1 (wrap64 (Int.tdiv x4_1 64))) (shl .u64 1 (IntKind.u64.wrap (Int.tmod x4_1 64)))))) else (none)) else (none)) else (none)) = some (r1, r2) := by rw [if_pos rfl] at H; exact H
                clear H
                have H := H1
                clear H1
                obtain ⟨ji16, hji16⟩ : ∃ j_ : Int, (wrap64 (Int.tdiv x4_1 64)) = j_ := ⟨_, rfl⟩
                replace H : (if 0 ≤ (ji16) then (if (ji16) < (x106001_1.length : Int) then (if 0 ≤ (IntKind.u64.wrap (Int.tmod x4_1 64)) then (sloperef3_Of.l0 k1 l0 (wrap64 (x4_1 + 1)) (l0.length : Int) (x106001_1.set ((ji16) : Int).toNat (Go.bits .or .u64 (rd x106001_1 (ji16)) (shl .u64 1 (IntKind.u64.wrap (Int.tmod x4_1 64)))))) else (none)) else (none)) else (none)) = some (r1, r2) := by first | (rw [hji16] at H; exact H) | (simp only [hji16] at H ⊢; exact H)
                have hji16w : (IntKind.i64.wrap (Int.tdiv x4_1 64)) = ji16 := (i64_w _).trans hji16
                by_cases c17 : 0 ≤ (ji16)
                · rw [if_pos c17] at H
                  have c17b0 : decide (0 ≤ (ji16)) = true := decide_eq_true c17
                  clear c17
                  by_cases c18 : (ji16) < (x106001_1.length : Int)
                  · rw [if_pos c18] at H
                    have c18b0 : decide ((ji16) < (x106001_1.length : Int)) = true := decide_eq_true c18
                    clear c18
                    obtain ⟨ji19, hji19⟩ : ∃ j_ : Int, (IntKind.u64.wrap (Int.tmod x4_1 64)) = j_ := ⟨_, rfl⟩
                    replace H : (if 0 ≤ (ji19) then (sloperef3_Of.l0 k1 l0 (wrap64 (x4_1 + 1)) (l0.length : Int) (x106001_1.set ((ji16) : Int).toNat (Go.bits .or .u64 (rd x106001_1 (ji16)) (shl .u64 1 (ji19))))) else (none)) = some (r1, r2) := by first | (rw [hji19] at H; exact H) | (simp only [hji19] at H ⊢; exact H)
                    by_cases c20 : 0 ≤ (ji19)
                    · rw [if_pos c20] at H
                      have c20b0 := eq_true c20
                      have c20b1 : decide (0 ≤ (ji19)) = true := decide_eq_true c20
                      clear c20
                      obtain ⟨ji21, hji21⟩ : ∃ j_ : Int, (shl .u64 1 (ji19)) = j_ := ⟨_, rfl⟩
                      replace H : (sloperef3_Of.l0 k1 l0 (wrap64 (x4_1 + 1)) (l0.length : Int) (x106001_1.set ((ji16) : Int).toNat (Go.bits .or .u64 (rd x106001_1 (ji16)) (ji21)))) = some (r1, r2) := by first | (rw [hji21] at H; exact H) | (simp only [hji21] at H ⊢; exact H)
                      have hji21_ : (IntKind.u64.wrap (1 * 2 ^ min (ji19).toNat 64)) = ji21 := hji21
                      have hji21z : (ji19) ≤ 64 → (IntKind.u64.wrap (1 * 2 ^ (ji19).toNat)) = ji21 := shl_small hji21
                      have hji21u : (IntKind.u64.wrap (2 ^ min (ji19).toNat 64)) = ji21 := by have h_ := hji21_; rw [Int.one_mul] at h_; exact h_
                      have hji21v : (ji19) ≤ 64 → (IntKind.u64.wrap (2 ^ (ji19).toNat)) = ji21 := fun hle_ => by have h_ := hji21z hle_; rw [Int.one_mul] at h_; exact h_
                      obtain ⟨y108, hy108⟩ : ∃ y_ : List Int, y_ = (x106001_1.set ((ji16) : Int).toNat (Go.bits .or .u64 (rd x106001_1 (ji16)) (ji21))) := ⟨_, rfl⟩
                      replace H : (sloperef3_Of.l0 k1 l0 (wrap64 (x4_1 + 1)) (l0.length : Int) y108) = some (r1, r2) := by first | (rw [hy108]; with_reducible exact H) | (have H2_ := (Option.bind_some _ _).symm.trans H; rw [hy108]; with_reducible exact H2_) | (have H2_ := (Option.bind_some _ _).symm.trans H; with_reducible exact H2_) | with_reducible exact H | (rw [hy108]; exact H) | exact H
                      have Ny108 := Aside0.mk hy108
                      clear hy108
                      have H' := Aside0.mk H
                      clear H
                      have p106 : 0 ≤ (x4_1 : Int) := of_decide_eq_true (by first | (with_reducible assumption) | assumption)
                      have q106 : x4_1 < (l0.length : Int) := of_decide_eq_true (by first | (with_reducible assumption) | assumption)
                      obtain ⟨ad106, e106, hx106_0⟩ := Kd.at_bool HR0.out x4_1 p106 q106
                      (try rw [← Nbq14.out] at hx106_0)
                      cases e106
                      replace hx106_0 := (HB.out.cell (World.block_lt_of_cell? w _ hx106_0)).trans hx106_0
                      replace p106 := eq_true p106
                      replace q106 := eq_true q106
                      try go_wp2
                      have n0_ := Aside0.mk (Kd.R_drew HO_106001.out)
                      have n1_ := Aside0.mk (blk_drew BK101.out)
                      have n2_ := Aside0.mk (blk_drew BK105.out)
                      have n3_ := Aside0.mk (below_drew1 HB.out)
                      clear HO_106001
                      clear BK101
                      clear BK105
                      clear HB
                      have HO_106001 := n0_
                      have BK101 := n1_
                      have BK105 := n2_
                      have HB := n3_
                      clear n0_ n1_ n2_ n3_
                      obtain ⟨Ao24, co24, eo24⟩ := Kd.R_slice HO_106001.out
                      (first | subst eo24 | (injection eo24 with f1_ f2_ f3_; have f4_ := f1_.symm; have f5_ := f3_.symm; clear f1_ f2_ f3_; subst f4_; subst f5_))
                      have p107 : 0 ≤ ((ji16) : Int) := of_decide_eq_true (by first | (with_reducible assumption) | assumption)
                      have q107 : (ji16) < (x106001_1.length : Int) := of_decide_eq_true (by first | (with_reducible assumption) | assumption)
                      obtain ⟨ad107, e107, hx107_0⟩ := Kd.at_int (Kd.R_reads' HO_106001.out).2.2 (ji16) p107 q107
                      cases e107
                      replace p107 := eq_true p107
                      replace q107 := eq_true q107
                      have p22 : 0 ≤ ((ji16) : Int) := of_decide_eq_true (by first | (with_reducible assumption) | assumption)
                      have q22 : ((ji16) : Int) < ((x106001_1.length : Int) : Int) := of_decide_eq_true (by first | (with_reducible assumption) | assumption)
                      obtain ⟨go22, co22, eo22, gb22, gl22, cl22, HG22⟩ := Kd.R_form HO_106001.out (by omega)
                      (first | cases eo22 | (injection eo22 with ea_ en_ ec_; (first | subst ea_ | (injection ea_ with ea_; subst ea_)); subst ec_; clear en_))
                      have GB22 := Aside0.mk gb22
                      have GG22 := Aside0.mk HG22
                      clear gb22 gl22 HG22
                      (first | simp only [add_plain] at hx107_0 | skip)
                      obtain ⟨hx22_0, hf22_0⟩ := Kd.R_celln 0 HO_106001.out ((ji16) : Int) p22 q22
                      replace p22 := eq_true p22
                      replace q22 := eq_true q22
                      have HP25 := Kd.R_putn HO_106001.out ((ji16) : Int) (Go.bits .or .u64 (rd x106001_1 (ji16)) (ji21))
                      rw [← Ny108.out] at HP25
                      have HQ25 := Aside0.mk HP25
                      clear HP25
                      refine start_ (n := 17) (S := fun w' => w'.cell? ⟨gb105, 0, none⟩ = some (.int .i64 (l0.length : Int)) ∧ w'.cell? ⟨gb105, 1, none⟩ = some (.slice (some ⟨go22, 0, none⟩) x106001_1.length co24) ∧ w'.cell? ⟨go22, ((ji16)).toNat, none⟩ = some (.int .u64 (rd x106001_1 (ji16)))) (ds := [16]) #[false, false, false, false, false, false, false, false, false, false, false, false, false, false, false, false, false] (by kernel_rfl) rfl rfl ⟨(blk_cell BK105.out 0).trans rfl, (blk_cell BK105.out 1).trans rfl, hx107_0⟩ (fun hHeld => ?_); refine with_tabW sloperef3_Of.tab6 sloperef3_Of.bits6 (fun HT_ HW_ => ?_)
                      generalize wr.drew = w23 at HO_106001 BK101 BK105 HB GG22 HQ25 hf22_0 hx107_0 hx22_0 hHeld ⊢
                      refine pure_ (i := 0) (N := some 23) (v := ?_) (a' := ?_) #[true, false, false, false, false, false, false, false, false, false, false, false, false, false, false, false, false] rfl rfl (any_of HT_.out (by kernel_rfl)) (fun _ _ _ h => h) (Or.inl ⟨by rfl, ?_⟩) ?_ ?_
                      rotate_left
                      · intro w'
                        go_simp
                        with_reducible rfl
                      rotate_left
                      · simp only [Act.put, List.setIfInBounds_toArray, List.set_cons_zero, List.set_cons_succ, i64_w, i32_w]
                        rfl
                      refine pure_ (i := 2) (N := some 25) (v := ?_) (a' := ?_) #[true, false, true, false, false, false, false, false, false, false, false, false, false, false, false, false, false] rfl rfl (any_of HT_.out (by kernel_rfl)) (fun _ _ _ h => h) (Or.inl ⟨by rfl, ?_⟩) ?_ ?_
                      rotate_left
                      · intro w'
                        go_simp
                        with_reducible rfl
                      rotate_left
                      · simp only [Act.put, List.setIfInBounds_toArray, List.set_cons_zero, List.set_cons_succ, i64_w, i32_w]
                        rfl
                      refine pure_ (i := 3) (N := some 26) (v := ?_) (a' := ?_) #[true, false, true, true, false, false, false, false, false, false, false, false, false, false, false, false, false] rfl rfl (any_of HT_.out (by kernel_rfl)) (fun _ _ _ h => h) (Or.inl ⟨by rfl, ?_⟩) ?_ ?_
                      rotate_left
                      · intro w'
                        go_simp
                        with_reducible rfl
                      rotate_left
                      · simp only [Act.put, List.setIfInBounds_toArray, List.set_cons_zero, List.set_cons_succ, i64_w, i32_w]
                        rfl
                      refine pure_ (i := 4) (N := some 27) (v := ?_) (a' := ?_) #[true, false, true, true, true, false, false, false, false, false, false, false, false, false, false, false, false] rfl rfl (any_of HT_.out (by kernel_rfl)) (fun _ _ _ h => h) (Or.inl ⟨by rfl, ?_⟩) ?_ ?_
                      rotate_left
                      · intro w'
                        go_simp
                        with_reducible rfl
                      rotate_left
                      · simp only [Act.put, List.setIfInBounds_toArray, List.set_cons_zero, List.set_cons_succ, i64_w, i32_w]
                        rfl
                      refine pure_ (i := 6) (N := some 29) (v := ?_) (a' := ?_) #[true, false, true, true, true, false, true, false, false, false, false, false, false, false, false, false, false] rfl rfl (any_of HT_.out (by kernel_rfl)) (fun _ _ _ h => h) (Or.inl ⟨by rfl, ?_⟩) ?_ ?_
                      rotate_left
                      · intro w'
                        go_simp
                        with_reducible rfl
                      rotate_left
                      · simp only [Act.put, List.setIfInBounds_toArray, List.set_cons_zero, List.set_cons_succ, i64_w, i32_w]
                        rfl
                      refine pure_ (i := 7) (N := some 30) (v := ?_) (a' := ?_) #[true, false, true, true, true, false, true, true, false, false, false, false, false, false, false, false, false] rfl rfl (any_of HT_.out (by kernel_rfl)) (fun _ _ _ h => h) (Or.inl ⟨by rfl, ?_⟩) ?_ ?_
                      rotate_left
                      · intro w'
                        go_simp
                        with_reducible rfl
                      rotate_left
                      · simp only [Act.put, List.setIfInBounds_toArray, List.set_cons_zero, List.set_cons_succ, i64_w, i32_w]
                        rfl
                      refine pure_ (i := 10) (N := some 33) (v := ?_) (a' := ?_) #[true, false, true, true, true, false, true, true, false, false, true, false, false, false, false, false, false] rfl rfl (any_of HT_.out (by kernel_rfl)) (fun _ _ _ h => h) (Or.inl ⟨by rfl, ?_⟩) ?_ ?_
                      rotate_left
                      · intro w'
                        go_simp
                        with_reducible rfl
                      rotate_left
                      · simp only [Act.put, List.setIfInBounds_toArray, List.set_cons_zero, List.set_cons_succ, i64_w, i32_w]
                        rfl
                      refine pure_ (i := 11) (N := some 34) (v := ?_) (a' := ?_) #[true, false, true, true, true, false, true, true, false, false, true, true, false, false, false, false, false] rfl rfl (any_of HT_.out (by kernel_rfl)) (fun _ _ _ h => h) (Or.inl ⟨by rfl, ?_⟩) ?_ ?_
                      rotate_left
                      · intro w'
                        go_simp
                        with_reducible rfl
                      rotate_left
                      · simp only [Act.put, List.setIfInBounds_toArray, List.set_cons_zero, List.set_cons_succ, i64_w, i32_w]
                        rfl
                      refine pure_ (i := 12) (N := some 35) (v := ?_) (a' := ?_) #[true, false, true, true, true, false, true, true, false, false, true, true, true, false, false, false, false] rfl rfl (any_of HT_.out (by kernel_rfl)) (fun _ _ _ h => h) (Or.inl ⟨by rfl, ?_⟩) ?_ ?_
                      rotate_left
                      · intro w'
                        go_simp
                        with_reducible rfl
                      rotate_left
                      · simp only [Act.put, List.setIfInBounds_toArray, List.set_cons_zero, List.set_cons_succ, i64_w, i32_w]
                        rfl
                      refine pure_ (i := 13) (N := some 36) (v := ?_) (a' := ?_) #[true, false, true, true, true, false, true, true, false, false, true, true, true, true, false, false, false] rfl rfl (any_of HT_.out (by kernel_rfl)) (fun _ _ _ h => h) (Or.inl ⟨by rfl, ?_⟩) ?_ ?_
                      rotate_left
                      · intro w'
                        go_simp
                        with_reducible rfl
                      rotate_left
                      · simp only [Act.put, List.setIfInBounds_toArray, List.set_cons_zero, List.set_cons_succ, i64_w, i32_w]
                        rfl
                      refine take_ (i := 1) (N := some 24) (v := ?_) (a' := ?_) #[true, true, true, true, true, false, true, true, false, false, true, true, true, true, false, false, false] rfl rfl (take_ofW HT_.out HW_.out (by kernel_rfl)) (fun _ _ _ h => h) (Or.inl ⟨by rfl, ?_⟩) hHeld ?_ ?_
                      rotate_left
                      · rintro w' ⟨s0, s1, s2⟩
                        go_simp
                        with_reducible rfl
                      rotate_left
                      · simp only [Act.put, List.setIfInBounds_toArray, List.set_cons_zero, List.set_cons_succ, i64_w, i32_w]
                        rfl
                      refine take_ (i := 5) (N := some 28) (v := ?_) (a' := ?_) #[true, true, true, true, true, true, true, true, false, false, true, true, true, true, false, false, false] rfl rfl (take_ofW HT_.out HW_.out (by kernel_rfl)) (fun _ _ _ h => h) (Or.inl ⟨by rfl, ?_⟩) hHeld ?_ ?_
                      rotate_left
                      · rintro w' ⟨s0, s1, s2⟩
                        go_simp
                        with_reducible rfl
                      rotate_left
                      · simp only [Act.put, List.setIfInBounds_toArray, List.set_cons_zero, List.set_cons_succ, i64_w, i32_w]
                        rfl
                      refine pure_ (i := 8) (N := some 31) (v := ?_) (a' := ?_) #[true, true, true, true, true, true, true, true, true, false, true, true, true, true, false, false, false] rfl rfl (any_of HT_.out (by kernel_rfl)) (fun _ _ _ h => h) (Or.inl ⟨by rfl, ?_⟩) ?_ ?_
                      rotate_left
                      · intro w'
                        go_simp
                        with_reducible rfl
                      rotate_left
                      · simp only [Act.put, List.setIfInBounds_toArray, List.set_cons_zero, List.set_cons_succ, i64_w, i32_w]
                        rfl
                      refine take_ (i := 9) (N := some 32) (v := ?_) (a' := ?_) #[true, true, true, true, true, true, true, true, true, true, true, true, true, true, false, false, false] rfl rfl (take_ofW HT_.out HW_.out (by kernel_rfl)) (fun _ _ _ h => h) (Or.inl ⟨by rfl, ?_⟩) hHeld ?_ ?_
                      rotate_left
                      · rintro w' ⟨s0, s1, s2⟩
                        go_simp
                        with_reducible rfl
                      rotate_left
                      · simp only [Act.put, List.setIfInBounds_toArray, List.set_cons_zero, List.set_cons_succ, i64_w, i32_w]
                        rfl
                      refine pure_ (i := 14) (N := some 37) (v := ?_) (a' := ?_) #[true, true, true, true, true, true, true, true, true, true, true, true, true, true, true, false, false] rfl rfl (any_of HT_.out (by kernel_rfl)) (fun _ _ _ h => h) (Or.inl ⟨by rfl, ?_⟩) ?_ ?_
                      rotate_left
                      · intro w'
                        go_simp
                        with_reducible rfl
                      rotate_left
                      · simp only [Act.put, List.setIfInBounds_toArray, List.set_cons_zero, List.set_cons_succ, i64_w, i32_w]
                        rfl
                      refine pure_ (i := 15) (N := some 38) (v := ?_) (a' := ?_) #[true, true, true, true, true, true, true, true, true, true, true, true, true, true, true, true, false] rfl rfl (any_of HT_.out (by kernel_rfl)) (fun _ _ _ h => h) (Or.inl ⟨by rfl, ?_⟩) ?_ ?_
                      rotate_left
                      · intro w'
                        go_simp
                        with_reducible rfl
                      rotate_left
                      · simp only [Act.put, List.setIfInBounds_toArray, List.set_cons_zero, List.set_cons_succ, i64_w, i32_w]
                        rfl
                      refine last_ (i := 16) (N := none) #[true, true, true, true, true, true, true, true, true, true, true, true, true, true, true, true, true] rfl rfl (one_of HT_.out (by kernel_rfl)) (by decide) (fun K hK => ?_)
                      refine skip_ (w1 := ?_) (by rfl) rfl ?_ ?_
                      rotate_left
                      · go_simp
                        rfl
                      refine hK.out _ _ ?_
                      clear hK K
                      refine done_ (done_of HT_.out (by kernel_rfl)) ?_
                      try go_wp2
                      go_roundg k1
                      case measure => have := HK1.out; omega
                      case rel => exact ⟨(wrap64 (x4_1 + 1)), (y108), (.slice (some ⟨go22, 0, none⟩) x106001_1.length co24), (by first | rfl | (simp; done) | (simp [*]; done)), H', ⟨by have := HK1.out; omega⟩, ⟨by (with_reducible repeat (first | apply Kd.R_alloc | apply Kd.R_drewN | apply Kd.R_drew)); exact HQ25.out⟩, ⟨by (with_reducible repeat (first | refine blk_drewN ?_ _ | refine blk_drew ?_ | refine blk_alloc ?_ _)); refine blk_far ?_ (by have h_ := Kd.R_ne HO_106001.out BK101.out (by decide); intro e_; exact h_ (by rw [e_]; rfl)) _; (with_reducible repeat (first | refine blk_drewN ?_ _ | refine blk_drew ?_ | refine blk_alloc ?_ _)); exact BK101.out⟩, ⟨by (with_reducible repeat (first | refine blk_drewN ?_ _ | refine blk_drew ?_ | refine blk_alloc ?_ _)); refine blk_far ?_ (by have h_ := Kd.R_ne HO_106001.out BK105.out (by decide); intro e_; exact h_ (by rw [e_]; rfl)) _; (with_reducible repeat (first | refine blk_drewN ?_ _ | refine blk_drew ?_ | refine blk_alloc ?_ _)); exact BK105.out⟩, ⟨by repeat (first | (with_reducible first | exact HB.out | apply below_alloc | apply pw_below_drewN | apply below_drew1 | refine below_set ?_ GB22.out | refine below_set ?_ GE101.out | refine below_set ?_ GE105.out) | exact HB.out)⟩⟩
                    · rw [if_neg c20] at H
                      exact absurd H (by simp)
                  · rw [if_neg c18] at H
                    exact absurd H (by simp)
                · rw [if_neg c17] at H
                  exact absurd H (by simp)
              · replace c15 := Bool.eq_false_iff.mpr c15
                subst c15
                have H1 : (sloperef3_Of.l0 k1 l0 (wrap64 (x4_1 + 1)) (l0.length : Int) x106001_1) = some (r1, r2) := by rw [if_neg (show ¬ (false = true) by decide)] at H; exact H
                clear H
                have H := H1
                clear H1
                have H' := Aside0.mk H
                clear H
                have p106 : 0 ≤ (x4_1 : Int) := of_decide_eq_true (by first | (with_reducible assumption) | assumption)
                have q106 : x4_1 < (l0.length : Int) := of_decide_eq_true (by first | (with_reducible assumption) | assumption)
                obtain ⟨ad106, e106, hx106_0⟩ := Kd.at_bool HR0.out x4_1 p106 q106
                (try rw [← Nbq14.out] at hx106_0)
                cases e106
                replace hx106_0 := (HB.out.cell (World.block_lt_of_cell? w _ hx106_0)).trans hx106_0
                replace p106 := eq_true p106
                replace q106 := eq_true q106
                go_wp2
                go_roundg k1
                case measure => have := HK1.out; omega
                case rel => exact ⟨(wrap64 (x4_1 + 1)), (x106001_1), (u106001), (by first | rfl | (simp; done) | (simp [*]; done)), H', ⟨by have := HK1.out; omega⟩, ⟨by (with_reducible repeat (first | apply Kd.R_alloc | apply Kd.R_drewN | apply Kd.R_drew)); exact HO_106001.out⟩, ⟨by (with_reducible repeat (first | refine blk_drewN ?_ _ | refine blk_drew ?_ | refine blk_alloc ?_ _)); exact BK101.out⟩, ⟨by (with_reducible repeat (first | refine blk_drewN ?_ _ | refine blk_drew ?_ | refine blk_alloc ?_ _)); exact BK105.out⟩, ⟨by repeat (first | (with_reducible first | exact HB.out | apply below_alloc | apply pw_below_drewN | apply below_drew1 | refine below_set ?_ GE101.out | refine below_set ?_ GE105.out) | exact HB.out)⟩⟩
            · rw [if_neg c13] at H
              exact absurd H (by simp)
          · rw [if_neg c12] at H
            have c12b0 : decide (x4_1 < (l0.length : Int)) = false := decide_eq_false c12
            clear c12
            simp only [Option.some.injEq, Prod.mk.injEq] at H
            obtain ⟨rfl, rfl⟩ := H
            have hnb26 := NB105_101.out
            have hnc26 := NB101_105.out
            have hcz27_0 : wr.cell? ⟨gb105, 0, none⟩ = some (.int .i64 (l0.length : Int)) := (blk_cell BK105.out 0).trans rfl
            have hcz27_1 : wr.cell? ⟨gb105, 1, none⟩ = some (u106001) := (blk_cell BK105.out 1).trans rfl
            have hfz27_0 := blk_frozen BK105.out 0
            have hfz27_1 := blk_frozen BK105.out 1
            have hcz28_0 : wr.cell? ⟨gb101, 0, none⟩ = some (.int .i64 0) := (blk_cell BK101.out 0).trans rfl
            have hcz28_1 : wr.cell? ⟨gb101, 1, none⟩ = some (.slice none 0 0) := (blk_cell BK101.out 1).trans rfl
            have hfz28_0 := blk_frozen BK101.out 0
            have hfz28_1 := blk_frozen BK101.out 1
            obtain ⟨Ao29, co29, eo29⟩ := Kd.R_slice HO_106001.out
            subst eo29
            go_wp2
            refine bodyPost_ret (results_cell_row rfl _ _ gb101 26 #[.int .i64 (l0.length : Int), .slice Ao29 x106001_1.length co29] (0, 0) _ rfl (by (with_reducible repeat (first | refine blk_drewN ?_ _ | refine blk_drew ?_ | refine blk_alloc ?_ _)); refine blk_put (cs := #[.int .i64 (l0.length : Int), .slice none 0 0]) ?_ 1 _ rfl; (with_reducible repeat (first | refine blk_drewN ?_ _ | refine blk_drew ?_ | refine blk_alloc ?_ _)); refine blk_put (cs := #[.int .i64 0, .slice none 0 0]) ?_ 0 _ rfl; (with_reducible repeat (first | refine blk_drewN ?_ _ | refine blk_drew ?_ | refine blk_alloc ?_ _)); exact BK101.out) Try.underlying26 rfl (by kernel_rfl)) rfl ?_
            exact ⟨_, by first | rfl | (simp [errW_none, errW_some] <;> rfl) | (simp only [← hji2]; first | rfl | (simp [errW_none, errW_some] <;> rfl)) | (simp [*, errW_none, errW_some] <;> rfl), by (with_reducible repeat (first | apply Kd.R_alloc | apply Kd.R_drewN | apply Kd.R_drew)); exact Kd.R_mono (Kd.R_far (p := ⟨gb101, 1, none⟩) (Kd.R_far (p := ⟨gb101, 0, none⟩) (Kd.R_types HO_106001.out BK101.out (by decide)) (fun _ hk => hk.2) (.int .i64 (l0.length : Int))) (fun _ hk => hk.2) (.slice Ao29 x106001_1.length co29)) (fun _ hk => trivial), by repeat (first | (with_reducible first | exact HB.out | apply below_alloc | apply pw_below_drewN | apply below_drew1 | refine below_set ?_ GE101.out | refine below_set ?_ GE105.out) | exact HB.out)⟩
    · rw [if_neg c4] at H
      exact absurd H (by simp)
  · rw [if_neg c3] at H
    exact absurd H (by simp)
end Go.Proofs.Ytjmkhdhffmlhiaa.PAll
end
section
namespace Go.Proofs.Ytjmkhdhffmlhiaa.PAll
open Go.RowKit Go.Proofs.YtjmkhdhffmlhiaaW.PrintWords Go.Proofs.YtjmkhdhffmlhiaaW.PrintLast Go.Proofs.YtjmkhdhffmlhiaaW.PrintMore
attribute [local go_sem] max2_int min2_int max_two min_two max_three min_three max_four min_four w64_u8 w64_mod256   -- for this text's walks alone
set_option linter.unusedVariables false
set_option linter.unusedSimpArgs false
def sloperef3_none.f  : Option (Int × List Int) := some (0, ([] : List Int))
set_option maxHeartbeats 8000000 in
set_option maxRecDepth 100000 in
theorem sloperef3_none.calls  (r1 : Int) (r2 : List Int) (w : World) (h : sloperef3_none.f  = some (r1, r2)) :
    Calls Try.prog 60 #[] w fun e w' => ∃ v1_ : Value, e = .returned (.agg #[.int .i64 r1, v1_]) ∧ Kd.R (Kd.int .u64) 82 w' w.heap.size (fun _ => True) v1_ r2 ∧ Below w.heap.size w w' := by
  have hu26 := Try.underlying26
  have HB := Aside0.mk (Below.refl w.heap.size w)
  have H : (some (0, ([] : List Int))) = some (r1, r2) := h
  clear h
  simp only [Option.some.injEq, Prod.mk.injEq] at H
  obtain ⟨rfl, rfl⟩ := H
  go_enter Try.func60, Try.ntmps60
  go_wp2_with (first | ((with_reducible refine gate_dst (N := 0) rfl ?_); refine box_event ?hg (N := 0) ?hd (cs := #[.int .i64 0, .slice none 0 0]) (t := 26) ?hr ?_; (case hd => rfl); (case hg => rfl); (case hr => first | (go_simp; done) | (go_simp; rfl)); intro gb101 hg w1 hbox hb; have n0_ := Aside0.mk (below_step (by repeat (first | (with_reducible first | exact HB.out | apply below_alloc | apply pw_below_drewN | apply below_drew1) | exact HB.out)) hb); have n1_ := Aside0.mk (hbox); have n2_ := Aside0.mk ((by rw [hg]; exact (below_size (by repeat (first | (with_reducible first | exact HB.out | apply below_alloc | apply pw_below_drewN | apply below_drew1) | exact HB.out))) : w.heap.size ≤ gb101)); have n3_ := Aside0.mk ((by rw [hg]; exact (below_size (by repeat (first | (with_reducible first | exact HB.out | apply below_alloc | apply pw_below_drewN | apply below_drew1) | exact HB.out))) : w.heap.size ≤ gb101)); clear HB; have HB := n0_; have BK101 := n1_; have GW101 := n2_; have GE101 := n3_; clear n0_ n1_ n2_ n3_; clear hb hbox hg; have hcz2_0 : w1.cell? ⟨gb101, 0, none⟩ = some (.int .i64 0) := (blk_cell BK101.out 0).trans rfl; have hcz2_1 : w1.cell? ⟨gb101, 1, none⟩ = some (.slice none 0 0) := (blk_cell BK101.out 1).trans rfl; have hfz2_0 := blk_frozen BK101.out 0; have hfz2_1 := blk_frozen BK101.out 1))
  refine bodyPost_ret (results_cell_row rfl _ _ gb101 26 #[.int .i64 0, .slice none 0 0] (0, 0) _ rfl (by (with_reducible repeat (first | refine blk_drewN ?_ _ | refine blk_drew ?_ | refine blk_alloc ?_ _)); refine blk_put (cs := #[.int .i64 0, .slice none 0 0]) ?_ 1 _ rfl; (with_reducible repeat (first | refine blk_drewN ?_ _ | refine blk_drew ?_ | refine blk_alloc ?_ _)); refine blk_put (cs := #[.int .i64 0, .slice none 0 0]) ?_ 0 _ rfl; (with_reducible repeat (first | refine blk_drewN ?_ _ | refine blk_drew ?_ | refine blk_alloc ?_ _)); exact BK101.out) Try.underlying26 rfl (by kernel_rfl)) rfl ?_
  exact ⟨_, by first | rfl | (simp [errW_none, errW_some] <;> rfl) | (simp [*, errW_none, errW_some] <;> rfl), by first | exact Kd.R_nil _ _ _ _ _ | exact Kd.N_nil _ _ _ _ _ | exact Kd.V_nil _ _ _ _ _ | exact Kd.Q_nil _ _ _ _ _ | exact Kd.S_nil _ _ _ _ _, by repeat (first | (with_reducible first | exact HB.out | apply below_alloc | apply pw_below_drewN | apply below_drew1 | refine below_set ?_ GE101.out) | exact HB.out)⟩
end Go.Proofs.Ytjmkhdhffmlhiaa.PAll
end
section
namespace Go.Proofs.Ytjmkhdhffmlhiaa.PAll
open Go.RowKit Go.Proofs.YtjmkhdhffmlhiaaW.PrintWords Go.Proofs.YtjmkhdhffmlhiaaW.PrintLast Go.Proofs.YtjmkhdhffmlhiaaW.PrintMore
attribute [local go_sem] max2_int min2_int max_two min_two max_three min_three max_four min_four w64_u8 w64_mod256   -- for this text's walks alone
set_option linter.unusedVariables false
set_option linter.unusedSimpArgs false
def sloperef3_sized.f (a0 : Int) : Option (Bool) := if a0 ≥ 0 then (some (decide (a0 ≤ 4096))) else (some false)
set_option maxHeartbeats 8000000 in
set_option maxRecDepth 100000 in
theorem sloperef3_sized.calls (a0 : Int) (r : Bool) (w : World) (h : sloperef3_sized.f a0 = some r) :
    Calls Try.prog 59 #[.int .i64 a0] w fun e w' => e = .returned (.bool r) ∧ Drawn0 w w' := by
  have H : (if a0 ≥ 0 then (some (decide (a0 ≤ 4096))) else (some false)) = some r := h
  clear h
  by_cases c2 : a0 ≥ 0
  · rw [if_pos c2] at H
    have c2b0 : decide (0 ≤ a0) = true := decide_eq_true c2
    clear c2
    obtain rfl := Option.some.inj H
    go_enter Try.func59, Try.ntmps59
    go_wp2
    go_ret
    exact ⟨by first | rfl | (simp; done) | (simp [*]; done), by repeat (first | exact Drawn0.refl _ | apply Drawn0.step)⟩
  · rw [if_neg c2] at H
    have c2b0 : decide (0 ≤ a0) = false := decide_eq_false c2
    clear c2
    obtain rfl := Option.some.inj H
    go_enter Try.func59, Try.ntmps59
    go_wp2
    go_ret
    exact ⟨by first | rfl | (simp; done) | (simp [*]; done), by repeat (first | exact Drawn0.refl _ | apply Drawn0.step)⟩
end Go.Proofs.Ytjmkhdhffmlhiaa.PAll
end
section
namespace Go.Proofs.Ytjmkhdhffmlhiaa.PAll
open Go.RowKit Go.Proofs.YtjmkhdhffmlhiaaW.PrintWords Go.Proofs.YtjmkhdhffmlhiaaW.PrintLast Go.Proofs.YtjmkhdhffmlhiaaW.PrintMore
attribute [local go_sem] max2_int min2_int max_two min_two max_three min_three max_four min_four w64_u8 w64_mod256   -- for this text's walks alone
set_option linter.unusedVariables false
set_option linter.unusedSimpArgs false
end Go.Proofs.Ytjmkhdhffmlhiaa.PAll
end
section
namespace Go.Proofs.Ytjmkhdhffmlhiaa.PAll
open Go.RowKit Go.Proofs.YtjmkhdhffmlhiaaW.PrintWords Go.Proofs.YtjmkhdhffmlhiaaW.PrintLast Go.Proofs.YtjmkhdhffmlhiaaW.PrintMore
attribute [local go_sem] max2_int min2_int max_two min_two max_three min_three max_four min_four w64_u8 w64_mod256   -- for this text's walks alone
set_option linter.unusedVariables false
set_option linter.unusedSimpArgs false
mutual
def slopelaw3_same.j0 : Nat → Bool → Int → List Int → Int → List Int → Option (Bool)
  | 0, _, _, _, _, _ => none
  | k + 1, x19, x102000, x102001, x103000, x103001 => if x19 = true then (some false) else (slopelaw3_same.l0 k 0 x102000 x102001 x103000 x103001)
def slopelaw3_same.l0 : Nat → Int → Int → List Int → Int → List Int → Option (Bool)
  | 0, _, _, _, _, _ => none
  | k + 1, x5, x102000, x102001, x103000, x103001 => if x5 < (x102001.length : Int) then (if 0 ≤ x5 then (if x5 < (x103001.length : Int) then (if (rd x102001 x5) = (rd x103001 x5) then (slopelaw3_same.l0 k (wrap64 (x5 + 1)) x102000 x102001 x103000 x103001) else (some false)) else (none)) else (none)) else (some true)
end
def slopelaw3_same.f (k : Nat) (a0_0 : Int) (l0_1 : List Int) (a1_0 : Int) (l1_1 : List Int) : Option (Bool) := if a0_0 = a1_0 then (slopelaw3_same.j0 k ((l0_1.length : Int) != (l1_1.length : Int)) a0_0 l0_1 a1_0 l1_1) else (slopelaw3_same.j0 k true a0_0 l0_1 a1_0 l1_1)
theorem slopelaw3_same.mono_l : ∀ k, (∀ y0 y1 y2 y3 y4, LeO (slopelaw3_same.j0 k y0 y1 y2 y3 y4) (slopelaw3_same.j0 (k + 1) y0 y1 y2 y3 y4)) ∧ (∀ y0 y1 y2 y3 y4, LeO (slopelaw3_same.l0 k y0 y1 y2 y3 y4) (slopelaw3_same.l0 (k + 1) y0 y1 y2 y3 y4))
  | 0 => ⟨fun _ _ _ _ _ r h => by simp [slopelaw3_same.j0] at h, fun _ _ _ _ _ r h => by simp [slopelaw3_same.l0] at h⟩
  | k + 1 => by
    obtain ⟨ih0, ih1⟩ := slopelaw3_same.mono_l k
    refine ⟨?_, ?_⟩
    · intro y0 y1 y2 y3 y4
      unfold slopelaw3_same.j0
      repeat' first
      | (with_reducible exact ih0 _ _ _ _ _)
      | (with_reducible exact ih1 _ _ _ _ _)
      | (with_reducible exact LeO.refl _)
      | (with_reducible exact LeO.none _)
      | (with_reducible refine LeO.ite ?_ ?_)
      | (with_reducible refine LeO.bind ?_ (fun _ => ?_))
      | exact ih0 _ _ _ _ _
      | exact ih1 _ _ _ _ _
      | exact LeO.none _
      | refine LeO.ite ?_ ?_
      | refine LeO.bind ?_ (fun _ => ?_)
    · intro y0 y1 y2 y3 y4
      unfold slopelaw3_same.l0
      repeat' first
      | (with_reducible exact ih0 _ _ _ _ _)
      | (with_reducible exact ih1 _ _ _ _ _)
      | (with_reducible exact LeO.refl _)
      | (with_reducible exact LeO.none _)
      | (with_reducible refine LeO.ite ?_ ?_)
      | (with_reducible refine LeO.bind ?_ (fun _ => ?_))
      | exact ih0 _ _ _ _ _
      | exact ih1 _ _ _ _ _
      | exact LeO.none _
      | refine LeO.ite ?_ ?_
      | refine LeO.bind ?_ (fun _ => ?_)
theorem slopelaw3_same.mono : ∀ a0 a1 a2 a3 k, LeO (slopelaw3_same.f k a0 a1 a2 a3) (slopelaw3_same.f (k + 1) a0 a1 a2 a3) := by
  intro a0 a1 a2 a3 k
  obtain ⟨ih0, ih1⟩ := slopelaw3_same.mono_l k
  unfold slopelaw3_same.f
  repeat' first
      | (with_reducible exact ih0 _ _ _ _ _)
      | (with_reducible exact ih1 _ _ _ _ _)
      | (with_reducible exact LeO.refl _)
      | (with_reducible exact LeO.none _)
      | (with_reducible refine LeO.ite ?_ ?_)
      | (with_reducible refine LeO.bind ?_ (fun _ => ?_))
      | exact ih0 _ _ _ _ _
      | exact ih1 _ _ _ _ _
      | exact LeO.none _
      | refine LeO.ite ?_ ?_
      | refine LeO.bind ?_ (fun _ => ?_)
set_option maxHeartbeats 8000000 in
set_option maxRecDepth 100000 in
theorem slopelaw3_same.calls (k : Nat) (a0_0 : Int) (A0_1 : Option Addr) (c0_1 : Nat) (l0_1 : List Int) (a1_0 : Int) (A1_1 : Option Addr) (c1_1 : Nat) (l1_1 : List Int) (r : Bool) (w : World) (hr0_1 : Kd.C (Kd.int .u64) w A0_1 l0_1.length l0_1) (hc0_1 : l0_1.length ≤ c0_1) (hr1_1 : Kd.C (Kd.int .u64) w A1_1 l1_1.length l1_1) (hc1_1 : l1_1.length ≤ c1_1) (h : slopelaw3_same.f k a0_0 l0_1 a1_0 l1_1 = some r) :
    Calls Try.prog 18 #[.agg #[.int .i64 a0_0, .slice A0_1 l0_1.length c0_1], .agg #[.int .i64 a1_0, .slice A1_1 l1_1.length c1_1]] w fun e w' => e = .returned (.bool r) ∧ Below w.heap.size w w' := by
  have hu26 := Try.underlying26
  have HR0_1 := Aside0.mk hr0_1
  have HC0_1 := Aside0.mk hc0_1
  clear hr0_1 hc0_1
  have HR1_1 := Aside0.mk hr1_1
  have HC1_1 := Aside0.mk hc1_1
  clear hr1_1 hc1_1
  have HB := Aside0.mk (Below.refl w.heap.size w)
  have H : (if a0_0 = a1_0 then (slopelaw3_same.j0 k ((l0_1.length : Int) != (l1_1.length : Int)) a0_0 l0_1 a1_0 l1_1) else (slopelaw3_same.j0 k true a0_0 l0_1 a1_0 l1_1)) = some r := h
  clear h
  have HC3 := Aside0.mk H
  clear H
  go_enter Try.func18, Try.ntmps18
  go_upto_region 1 with (first | ((with_reducible refine gate_dst (N := 2) rfl ?_); (try (refine gate_guard (by rfl) ?_; dsimp only)); refine box_event ?hg (N := 2) ?hd (cs := #[.int .i64 a0_0, .slice A0_1 l0_1.length c0_1]) (t := 26) ?hr ?_; (case hd => rfl); (case hg => rfl); (case hr => first | (go_simp; done) | (go_simp; rfl)); intro gb101 hg w4 hbox hb; have n0_ := Aside0.mk (below_step (by repeat (first | (with_reducible first | exact HB.out | apply below_alloc | apply pw_below_drewN | apply below_drew1) | exact HB.out)) hb); have n1_ := Aside0.mk (hbox); have n2_ := Aside0.mk ((by rw [hg]; exact (below_size (by repeat (first | (with_reducible first | exact HB.out | apply below_alloc | apply pw_below_drewN | apply below_drew1) | exact HB.out))) : w.heap.size ≤ gb101)); have n3_ := Aside0.mk ((by rw [hg]; exact (below_size (by repeat (first | (with_reducible first | exact HB.out | apply below_alloc | apply pw_below_drewN | apply below_drew1) | exact HB.out))) : w.heap.size ≤ gb101)); clear HB; have HB := n0_; have BK101 := n1_; have GW101 := n2_; have GE101 := n3_; clear n0_ n1_ n2_ n3_; clear hb hbox hg) | ((with_reducible refine gate_dst (N := 3) rfl ?_); (try (refine gate_guard (by rfl) ?_; dsimp only)); refine box_event ?hg (N := 3) ?hd (cs := #[.int .i64 a1_0, .slice A1_1 l1_1.length c1_1]) (t := 26) ?hr ?_; (case hd => rfl); (case hg => rfl); (case hr => first | (go_simp; done) | (go_simp; rfl)); intro gb102 hg w5 hbox hb; have n0_ := Aside0.mk (blk_below (g := gb101) (o := .cells #[.int .i64 a0_0, .slice A0_1 l0_1.length c0_1] 26 (0, 0)) (by (with_reducible repeat (first | refine blk_drewN ?_ _ | refine blk_drew ?_ | refine blk_alloc ?_ _)); exact BK101.out) hb); have n1_ := Aside0.mk (below_step (by repeat (first | (with_reducible first | exact HB.out | apply below_alloc | apply pw_below_drewN | apply below_drew1 | refine below_set ?_ GE101.out) | exact HB.out)) hb); have n2_ := Aside0.mk (hbox); have n3_ := Aside0.mk ((by rw [hg]; exact (below_size (by repeat (first | (with_reducible first | exact HB.out | apply below_alloc | apply pw_below_drewN | apply below_drew1 | refine below_set ?_ GE101.out) | exact HB.out))) : w.heap.size ≤ gb102)); have n4_ := Aside0.mk ((by rw [hg]; exact (below_size (by repeat (first | (with_reducible first | exact HB.out | apply below_alloc | apply pw_below_drewN | apply below_drew1 | refine below_set ?_ GE101.out) | exact HB.out))) : w.heap.size ≤ gb102)); have n5_ := Aside0.mk ((by rw [hg]; exact Nat.ne_of_lt (blk_lt (g := gb101) (o := .cells #[.int .i64 a0_0, .slice A0_1 l0_1.length c0_1] 26 (0, 0)) (by (with_reducible repeat (first | refine blk_drewN ?_ _ | refine blk_drew ?_ | refine blk_alloc ?_ _)); exact BK101.out)) : gb101 ≠ gb102)); have n6_ := Aside0.mk ((by rw [hg]; exact Nat.ne_of_gt (blk_lt (g := gb101) (o := .cells #[.int .i64 a0_0, .slice A0_1 l0_1.length c0_1] 26 (0, 0)) (by (with_reducible repeat (first | refine blk_drewN ?_ _ | refine blk_drew ?_ | refine blk_alloc ?_ _)); exact BK101.out)) : gb102 ≠ gb101)); clear BK101; clear HB; have BK101 := n0_; have HB := n1_; have BK102 := n2_; have GW102 := n3_; have GE102 := n4_; have NB101_102 := n5_; have NB102_101 := n6_; clear n0_ n1_ n2_ n3_ n4_ n5_ n6_; clear hb hbox hg))
  repeat (go_quiet (first | ((with_reducible refine gate_dst (N := 2) rfl ?_); (try (refine gate_guard (by rfl) ?_; dsimp only)); refine box_event ?hg (N := 2) ?hd (cs := #[.int .i64 a0_0, .slice A0_1 l0_1.length c0_1]) (t := 26) ?hr ?_; (case hd => rfl); (case hg => rfl); (case hr => first | (go_simp; done) | (go_simp; rfl)); intro gb101 hg w4 hbox hb; have n0_ := Aside0.mk (below_step (by repeat (first | (with_reducible first | exact HB.out | apply below_alloc | apply pw_below_drewN | apply below_drew1) | exact HB.out)) hb); have n1_ := Aside0.mk (hbox); have n2_ := Aside0.mk ((by rw [hg]; exact (below_size (by repeat (first | (with_reducible first | exact HB.out | apply below_alloc | apply pw_below_drewN | apply below_drew1) | exact HB.out))) : w.heap.size ≤ gb101)); have n3_ := Aside0.mk ((by rw [hg]; exact (below_size (by repeat (first | (with_reducible first | exact HB.out | apply below_alloc | apply pw_below_drewN | apply below_drew1) | exact HB.out))) : w.heap.size ≤ gb101)); clear HB; have HB := n0_; have BK101 := n1_; have GW101 := n2_; have GE101 := n3_; clear n0_ n1_ n2_ n3_; clear hb hbox hg) | ((with_reducible refine gate_dst (N := 3) rfl ?_); (try (refine gate_guard (by rfl) ?_; dsimp only)); refine box_event ?hg (N := 3) ?hd (cs := #[.int .i64 a1_0, .slice A1_1 l1_1.length c1_1]) (t := 26) ?hr ?_; (case hd => rfl); (case hg => rfl); (case hr => first | (go_simp; done) | (go_simp; rfl)); intro gb102 hg w5 hbox hb; have n0_ := Aside0.mk (blk_below (g := gb101) (o := .cells #[.int .i64 a0_0, .slice A0_1 l0_1.length c0_1] 26 (0, 0)) (by (with_reducible repeat (first | refine blk_drewN ?_ _ | refine blk_drew ?_ | refine blk_alloc ?_ _)); exact BK101.out) hb); have n1_ := Aside0.mk (below_step (by repeat (first | (with_reducible first | exact HB.out | apply below_alloc | apply pw_below_drewN | apply below_drew1 | refine below_set ?_ GE101.out) | exact HB.out)) hb); have n2_ := Aside0.mk (hbox); have n3_ := Aside0.mk ((by rw [hg]; exact (below_size (by repeat (first | (with_reducible first | exact HB.out | apply below_alloc | apply pw_below_drewN | apply below_drew1 | refine below_set ?_ GE101.out) | exact HB.out))) : w.heap.size ≤ gb102)); have n4_ := Aside0.mk ((by rw [hg]; exact (below_size (by repeat (first | (with_reducible first | exact HB.out | apply below_alloc | apply pw_below_drewN | apply below_drew1 | refine below_set ?_ GE101.out) | exact HB.out))) : w.heap.size ≤ gb102)); have n5_ := Aside0.mk ((by rw [hg]; exact Nat.ne_of_lt (blk_lt (g := gb101) (o := .cells #[.int .i64 a0_0, .slice A0_1 l0_1.length c0_1] 26 (0, 0)) (by (with_reducible repeat (first | refine blk_drewN ?_ _ | refine blk_drew ?_ | refine blk_alloc ?_ _)); exact BK101.out)) : gb101 ≠ gb102)); have n6_ := Aside0.mk ((by rw [hg]; exact Nat.ne_of_gt (blk_lt (g := gb101) (o := .cells #[.int .i64 a0_0, .slice A0_1 l0_1.length c0_1] 26 (0, 0)) (by (with_reducible repeat (first | refine blk_drewN ?_ _ | refine blk_drew ?_ | refine blk_alloc ?_ _)); exact BK101.out)) : gb102 ≠ gb101)); clear BK101; clear HB; have BK101 := n0_; have HB := n1_; have BK102 := n2_; have GW102 := n3_; have GE102 := n4_; have NB101_102 := n5_; have NB102_101 := n6_; clear n0_ n1_ n2_ n3_ n4_ n5_ n6_; clear hb hbox hg)); go_upto_region 1 with (first | ((with_reducible refine gate_dst (N := 2) rfl ?_); (try (refine gate_guard (by rfl) ?_; dsimp only)); refine box_event ?hg (N := 2) ?hd (cs := #[.int .i64 a0_0, .slice A0_1 l0_1.length c0_1]) (t := 26) ?hr ?_; (case hd => rfl); (case hg => rfl); (case hr => first | (go_simp; done) | (go_simp; rfl)); intro gb101 hg w4 hbox hb; have n0_ := Aside0.mk (below_step (by repeat (first | (with_reducible first | exact HB.out | apply below_alloc | apply pw_below_drewN | apply below_drew1) | exact HB.out)) hb); have n1_ := Aside0.mk (hbox); have n2_ := Aside0.mk ((by rw [hg]; exact (below_size (by repeat (first | (with_reducible first | exact HB.out | apply below_alloc | apply pw_below_drewN | apply below_drew1) | exact HB.out))) : w.heap.size ≤ gb101)); have n3_ := Aside0.mk ((by rw [hg]; exact (below_size (by repeat (first | (with_reducible first | exact HB.out | apply below_alloc | apply pw_below_drewN | apply below_drew1) | exact HB.out))) : w.heap.size ≤ gb101)); clear HB; have HB := n0_; have BK101 := n1_; have GW101 := n2_; have GE101 := n3_; clear n0_ n1_ n2_ n3_; clear hb hbox hg) | ((with_reducible refine gate_dst (N := 3) rfl ?_); (try (refine gate_guard (by rfl) ?_; dsimp only)); refine box_event ?hg (N := 3) ?hd (cs := #[.int .i64 a1_0, .slice A1_1 l1_1.length c1_1]) (t := 26) ?hr ?_; (case hd => rfl); (case hg => rfl); (case hr => first | (go_simp; done) | (go_simp; rfl)); intro gb102 hg w5 hbox hb; have n0_ := Aside0.mk (blk_below (g := gb101) (o := .cells #[.int .i64 a0_0, .slice A0_1 l0_1.length c0_1] 26 (0, 0)) (by (with_reducible repeat (first | refine blk_drewN ?_ _ | refine blk_drew ?_ | refine blk_alloc ?_ _)); exact BK101.out) hb); have n1_ := Aside0.mk (below_step (by repeat (first | (with_reducible first | exact HB.out | apply below_alloc | apply pw_below_drewN | apply below_drew1 | refine below_set ?_ GE101.out) | exact HB.out)) hb); have n2_ := Aside0.mk (hbox); have n3_ := Aside0.mk ((by rw [hg]; exact (below_size (by repeat (first | (with_reducible first | exact HB.out | apply below_alloc | apply pw_below_drewN | apply below_drew1 | refine below_set ?_ GE101.out) | exact HB.out))) : w.heap.size ≤ gb102)); have n4_ := Aside0.mk ((by rw [hg]; exact (below_size (by repeat (first | (with_reducible first | exact HB.out | apply below_alloc | apply pw_below_drewN | apply below_drew1 | refine below_set ?_ GE101.out) | exact HB.out))) : w.heap.size ≤ gb102)); have n5_ := Aside0.mk ((by rw [hg]; exact Nat.ne_of_lt (blk_lt (g := gb101) (o := .cells #[.int .i64 a0_0, .slice A0_1 l0_1.length c0_1] 26 (0, 0)) (by (with_reducible repeat (first | refine blk_drewN ?_ _ | refine blk_drew ?_ | refine blk_alloc ?_ _)); exact BK101.out)) : gb101 ≠ gb102)); have n6_ := Aside0.mk ((by rw [hg]; exact Nat.ne_of_gt (blk_lt (g := gb101) (o := .cells #[.int .i64 a0_0, .slice A0_1 l0_1.length c0_1] 26 (0, 0)) (by (with_reducible repeat (first | refine blk_drewN ?_ _ | refine blk_drew ?_ | refine blk_alloc ?_ _)); exact BK101.out)) : gb102 ≠ gb101)); clear BK101; clear HB; have BK101 := n0_; have HB := n1_; have BK102 := n2_; have GW102 := n3_; have GE102 := n4_; have NB101_102 := n5_; have NB102_101 := n6_; clear n0_ n1_ n2_ n3_ n4_ n5_ n6_; clear hb hbox hg)))
  (try simp only [Act.put, List.setIfInBounds_toArray, List.set_cons_zero, List.set_cons_succ])
  go_cut [19] (fun v19 wc => ∃ (kq : Nat) (x19_2 : Bool), v19 = .bool x19_2 ∧ Aside0 (slopelaw3_same.j0 kq x19_2 a0_0 l0_1 a1_0 l1_1 = some r) ∧ Aside0 (kq ≤ k) ∧ Aside0 (wc.heap[gb101]? = some (.cells #[.int .i64 a0_0, (.slice A0_1 l0_1.length c0_1)] 26 (0, 0))) ∧ Aside0 (wc.heap[gb102]? = some (.cells #[.int .i64 a1_0, (.slice A1_1 l1_1.length c1_1)] 26 (0, 0))) ∧ Aside0 (Below w.heap.size w wc))
  case first =>
    have H := HC3.out
    clear HC3
    by_cases c6 : a0_0 = a1_0
    · rw [if_pos c6] at H
      have c6b0 : (a0_0 == a1_0) = true := beq_iff_eq.mpr c6
      have c6b1 : (a0_0 != a1_0) = false := bne_eq_false_iff_eq.mpr c6
      clear c6
      (first | rw [c6b0] | (simp only [i64_w, i32_w]; rw [c6b0]) | skip)
      have H' := Aside0.mk H
      clear H
      have hnb7 := NB101_102.out
      have hnc7 := NB102_101.out
      have hcz8_0 : w5.cell? ⟨gb101, 0, none⟩ = some (.int .i64 a0_0) := (blk_cell BK101.out 0).trans rfl
      have hcz8_1 : w5.cell? ⟨gb101, 1, none⟩ = some (.slice A0_1 l0_1.length c0_1) := (blk_cell BK101.out 1).trans rfl
      have hfz8_0 := blk_frozen BK101.out 0
      have hfz8_1 := blk_frozen BK101.out 1
      have hcz9_0 : w5.cell? ⟨gb102, 0, none⟩ = some (.int .i64 a1_0) := (blk_cell BK102.out 0).trans rfl
      have hcz9_1 : w5.cell? ⟨gb102, 1, none⟩ = some (.slice A1_1 l1_1.length c1_1) := (blk_cell BK102.out 1).trans rfl
      have hfz9_0 := blk_frozen BK102.out 0
      have hfz9_1 := blk_frozen BK102.out 1
      go_wp2
      repeat (go_quiet (fail); try go_wp2)
      go_meet
      case rel => exact ⟨_, (((l0_1.length : Int) != (l1_1.length : Int))), (by first | rfl | (simp; done) | (simp [*]; done)), H', ⟨by first | omega | exact Nat.le_refl _⟩, ⟨by (with_reducible repeat (first | refine blk_drewN ?_ _ | refine blk_drew ?_ | refine blk_alloc ?_ _)); exact BK101.out⟩, ⟨by (with_reducible repeat (first | refine blk_drewN ?_ _ | refine blk_drew ?_ | refine blk_alloc ?_ _)); exact BK102.out⟩, ⟨by repeat (first | (with_reducible first | exact HB.out | apply below_alloc | apply pw_below_drewN | apply below_drew1 | refine below_set ?_ GE101.out | refine below_set ?_ GE102.out) | exact HB.out)⟩⟩
    · rw [if_neg c6] at H
      have c6b0 : (a0_0 == a1_0) = false := beq_eq_false_iff_ne.mpr c6
      have c6b1 : (a0_0 != a1_0) = true := bne_iff_ne.mpr c6
      (first | rw [c6b0] | (simp only [i64_w, i32_w]; rw [c6b0]) | skip)
      have H' := Aside0.mk H
      clear H
      have hnb10 := NB101_102.out
      have hnc10 := NB102_101.out
      have hcz11_0 : w5.cell? ⟨gb101, 0, none⟩ = some (.int .i64 a0_0) := (blk_cell BK101.out 0).trans rfl
      have hcz11_1 : w5.cell? ⟨gb101, 1, none⟩ = some (.slice A0_1 l0_1.length c0_1) := (blk_cell BK101.out 1).trans rfl
      have hfz11_0 := blk_frozen BK101.out 0
      have hfz11_1 := blk_frozen BK101.out 1
      have hcz12_0 : w5.cell? ⟨gb102, 0, none⟩ = some (.int .i64 a1_0) := (blk_cell BK102.out 0).trans rfl
      have hcz12_1 : w5.cell? ⟨gb102, 1, none⟩ = some (.slice A1_1 l1_1.length c1_1) := (blk_cell BK102.out 1).trans rfl
      have hfz12_0 := blk_frozen BK102.out 0
      have hfz12_1 := blk_frozen BK102.out 1
      go_wp2
      repeat (go_quiet (fail); try go_wp2)
      go_meet
      case rel => exact ⟨_, (true), (by first | rfl | (simp; done) | (simp [*]; done)), H', ⟨by first | omega | exact Nat.le_refl _⟩, ⟨by (with_reducible repeat (first | refine blk_drewN ?_ _ | refine blk_drew ?_ | refine blk_alloc ?_ _)); exact BK101.out⟩, ⟨by (with_reducible repeat (first | refine blk_drewN ?_ _ | refine blk_drew ?_ | refine blk_alloc ?_ _)); exact BK102.out⟩, ⟨by repeat (first | (with_reducible first | exact HB.out | apply below_alloc | apply pw_below_drewN | apply below_drew1 | refine below_set ?_ GE101.out | refine below_set ?_ GE102.out) | exact HB.out)⟩⟩
  case rest =>
    clear HC3
    try clear c1
    try clear p2
    try clear c6
    try clear c6b0
    try clear c6b1
    try clear c7
    try clear c10
    try clear hcz11_0
    try clear hcz11_1
    try clear hcz12_0
    try clear hcz12_1
    try clear hcz8_0
    try clear hcz8_1
    try clear hcz9_0
    try clear hcz9_1
    try clear hfz11_0
    try clear hfz11_1
    try clear hfz12_0
    try clear hfz12_1
    try clear hfz8_0
    try clear hfz8_1
    try clear hfz9_0
    try clear hfz9_1
    obtain ⟨kq, x19_2, rfl, HA, HJ2, BK101, BK102, HB⟩ := hcut
    cases kq with
    | zero => exact absurd HA.out (by simp [slopelaw3_same.j0])
    | succ kj2 =>
      have H := HA.out
      clear HA
      simp only [slopelaw3_same.j0] at H
      by_cases c13 : x19_2 = true
      · subst c13
        have H1 : (some false) = some r := by rw [if_pos rfl] at H; exact H
        clear H
        have H := H1
        clear H1
        obtain rfl := Option.some.inj H
        go_wp2
        repeat (go_quiet (fail); try go_wp2)
        go_ret
        exact ⟨by first | rfl | (simp [errW_none, errW_some] <;> rfl) | (simp [*, errW_none, errW_some] <;> rfl), by repeat (first | (with_reducible first | exact HB.out | apply below_alloc | apply pw_below_drewN | apply below_drew1 | refine below_set ?_ GE101.out | refine below_set ?_ GE102.out) | exact HB.out)⟩
      · replace c13 := Bool.eq_false_iff.mpr c13
        subst c13
        have H1 : (slopelaw3_same.l0 kj2 0 a0_0 l0_1 a1_0 l1_1) = some r := by rw [if_neg (show ¬ (false = true) by decide)] at H; exact H
        clear H
        have H := H1
        clear H1
        have H' := Aside0.mk H
        clear H
        go_wp2
        repeat (go_quiet (fail); try go_wp2)
        go_loopg [5] kj2 (fun kq v5 w' => ∃ (x5_2 : Int), v5 = .int .i64 x5_2 ∧ Aside0 (slopelaw3_same.l0 kq x5_2 a0_0 l0_1 a1_0 l1_1 = some r) ∧ Aside0 (kq ≤ kj2) ∧ Aside0 (w'.heap[gb101]? = some (.cells #[.int .i64 a0_0, (.slice A0_1 l0_1.length c0_1)] 26 (0, 0))) ∧ Aside0 (w'.heap[gb102]? = some (.cells #[.int .i64 a1_0, (.slice A1_1 l1_1.length c1_1)] 26 (0, 0))) ∧ Aside0 (Below w.heap.size w w'))
        case atStart => exact ⟨(0), (by first | rfl | (simp; done) | (simp [*]; done)), H', ⟨Nat.le_refl _⟩, ⟨by (with_reducible repeat (first | refine blk_drewN ?_ _ | refine blk_drew ?_ | refine blk_alloc ?_ _)); exact BK101.out⟩, ⟨by (with_reducible repeat (first | refine blk_drewN ?_ _ | refine blk_drew ?_ | refine blk_alloc ?_ _)); exact BK102.out⟩, ⟨by repeat (first | (with_reducible first | exact HB.out | apply below_alloc | apply pw_below_drewN | apply below_drew1 | refine below_set ?_ GE101.out | refine below_set ?_ GE102.out) | exact HB.out)⟩⟩
        case round =>
          clear H'
          try clear c1
          try clear p2
          try clear c6
          try clear c6b0
          try clear c6b1
          try clear c7
          try clear c10
          try clear c13
          try clear hcz11_0
          try clear hcz11_1
          try clear hcz12_0
          try clear hcz12_1
          try clear hcz8_0
          try clear hcz8_1
          try clear hcz9_0
          try clear hcz9_1
          try clear hfz11_0
          try clear hfz11_1
          try clear hfz12_0
          try clear hfz12_1
          try clear hfz8_0
          try clear hfz8_1
          try clear hfz9_0
          try clear hfz9_1
          try clear p2
          obtain ⟨x5_2, rfl, HA, HK2, BK101, BK102, HB⟩ := hrel
          cases gk with
          | zero => exact absurd HA.out (by simp [slopelaw3_same.l0])
          | succ k2 =>
            have H := HA.out
            clear HA
            simp only [slopelaw3_same.l0] at H
            by_cases c14 : x5_2 < (l0_1.length : Int)
            · rw [if_pos c14] at H
              have c14b0 : decide (x5_2 < (l0_1.length : Int)) = true := decide_eq_true c14
              clear c14
              by_cases c15 : 0 ≤ x5_2
              · rw [if_pos c15] at H
                have c15b0 : decide (0 ≤ x5_2) = true := decide_eq_true c15
                clear c15
                by_cases c16 : x5_2 < (l1_1.length : Int)
                · rw [if_pos c16] at H
                  have c16b0 : decide (x5_2 < (l1_1.length : Int)) = true := decide_eq_true c16
                  clear c16
                  by_cases c17 : (rd l0_1 x5_2) = (rd l1_1 x5_2)
                  · rw [if_pos c17] at H
                    have c17b0 : ((rd l0_1 x5_2) == (rd l1_1 x5_2)) = true := beq_iff_eq.mpr c17
                    have c17b1 : ((rd l0_1 x5_2) != (rd l1_1 x5_2)) = false := bne_eq_false_iff_eq.mpr c17
                    clear c17
                    have H' := Aside0.mk H
                    clear H
                    have hnb18 := NB101_102.out
                    have hnc18 := NB102_101.out
                    have hcz19_0 : wr.cell? ⟨gb101, 0, none⟩ = some (.int .i64 a0_0) := (blk_cell BK101.out 0).trans rfl
                    have hcz19_1 : wr.cell? ⟨gb101, 1, none⟩ = some (.slice A0_1 l0_1.length c0_1) := (blk_cell BK101.out 1).trans rfl
                    have hfz19_0 := blk_frozen BK101.out 0
                    have hfz19_1 := blk_frozen BK101.out 1
                    have p103 : 0 ≤ (x5_2 : Int) := of_decide_eq_true (by first | (with_reducible assumption) | assumption)
                    have q103 : x5_2 < (l0_1.length : Int) := of_decide_eq_true (by first | (with_reducible assumption) | assumption)
                    obtain ⟨ad103, e103, hx103_0⟩ := Kd.at_int HR0_1.out x5_2 p103 q103
                    cases e103
                    replace hx103_0 := (HB.out.cell (World.block_lt_of_cell? w _ hx103_0)).trans hx103_0
                    replace p103 := eq_true p103
                    replace q103 := eq_true q103
                    have hcz20_0 : wr.cell? ⟨gb102, 0, none⟩ = some (.int .i64 a1_0) := (blk_cell BK102.out 0).trans rfl
                    have hcz20_1 : wr.cell? ⟨gb102, 1, none⟩ = some (.slice A1_1 l1_1.length c1_1) := (blk_cell BK102.out 1).trans rfl
                    have hfz20_0 := blk_frozen BK102.out 0
                    have hfz20_1 := blk_frozen BK102.out 1
                    have p104 : 0 ≤ (x5_2 : Int) := of_decide_eq_true (by first | (with_reducible assumption) | assumption)
                    have q104 : x5_2 < (l1_1.length : Int) := of_decide_eq_true (by first | (with_reducible assumption) | assumption)
                    obtain ⟨ad104, e104, hx104_0⟩ := Kd.at_int HR1_1.out x5_2 p104 q104
                    cases e104
                    replace hx104_0 := (HB.out.cell (World.block_lt_of_cell? w _ hx104_0)).trans hx104_0
                    replace p104 := eq_true p104
                    replace q104 := eq_true q104
                    go_wp2
                    repeat (go_quiet (fail); try go_wp2)
                    go_roundg k2
                    case measure => have := HJ2.out; have := HK2.out; omega
                    case rel => exact ⟨(wrap64 (x5_2 + 1)), (by first | rfl | (simp; done) | (simp [*]; done)), H', ⟨by have := HJ2.out; have := HK2.out; omega⟩, ⟨by (with_reducible repeat (first | refine blk_drewN ?_ _ | refine blk_drew ?_ | refine blk_alloc ?_ _)); exact BK101.out⟩, ⟨by (with_reducible repeat (first | refine blk_drewN ?_ _ | refine blk_drew ?_ | refine blk_alloc ?_ _)); exact BK102.out⟩, ⟨by repeat (first | (with_reducible first | exact HB.out | apply below_alloc | apply pw_below_drewN | apply below_drew1 | refine below_set ?_ GE101.out | refine below_set ?_ GE102.out) | exact HB.out)⟩⟩
                  · rw [if_neg c17] at H
                    have c17b0 : ((rd l0_1 x5_2) == (rd l1_1 x5_2)) = false := beq_eq_false_iff_ne.mpr c17
                    have c17b1 : ((rd l0_1 x5_2) != (rd l1_1 x5_2)) = true := bne_iff_ne.mpr c17
                    obtain rfl := Option.some.inj H
                    have hnb21 := NB101_102.out
                    have hnc21 := NB102_101.out
                    have hcz22_0 : wr.cell? ⟨gb101, 0, none⟩ = some (.int .i64 a0_0) := (blk_cell BK101.out 0).trans rfl
                    have hcz22_1 : wr.cell? ⟨gb101, 1, none⟩ = some (.slice A0_1 l0_1.length c0_1) := (blk_cell BK101.out 1).trans rfl
                    have hfz22_0 := blk_frozen BK101.out 0
                    have hfz22_1 := blk_frozen BK101.out 1
                    have p103 : 0 ≤ (x5_2 : Int) := of_decide_eq_true (by first | (with_reducible assumption) | assumption)
                    have q103 : x5_2 < (l0_1.length : Int) := of_decide_eq_true (by first | (with_reducible assumption) | assumption)
                    obtain ⟨ad103, e103, hx103_0⟩ := Kd.at_int HR0_1.out x5_2 p103 q103
                    cases e103
                    replace hx103_0 := (HB.out.cell (World.block_lt_of_cell? w _ hx103_0)).trans hx103_0
                    replace p103 := eq_true p103
                    replace q103 := eq_true q103
                    have hcz23_0 : wr.cell? ⟨gb102, 0, none⟩ = some (.int .i64 a1_0) := (blk_cell BK102.out 0).trans rfl
                    have hcz23_1 : wr.cell? ⟨gb102, 1, none⟩ = some (.slice A1_1 l1_1.length c1_1) := (blk_cell BK102.out 1).trans rfl
                    have hfz23_0 := blk_frozen BK102.out 0
                    have hfz23_1 := blk_frozen BK102.out 1
                    have p104 : 0 ≤ (x5_2 : Int) := of_decide_eq_true (by first | (with_reducible assumption) | assumption)
                    have q104 : x5_2 < (l1_1.length : Int) := of_decide_eq_true (by first | (with_reducible assumption) | assumption)
                    obtain ⟨ad104, e104, hx104_0⟩ := Kd.at_int HR1_1.out x5_2 p104 q104
                    cases e104
                    replace hx104_0 := (HB.out.cell (World.block_lt_of_cell? w _ hx104_0)).trans hx104_0
                    replace p104 := eq_true p104
                    replace q104 := eq_true q104
                    go_wp2
                    repeat (go_quiet (fail); try go_wp2)
                    go_ret
                    exact ⟨by first | rfl | (simp [errW_none, errW_some] <;> rfl) | (simp [*, errW_none, errW_some] <;> rfl), by repeat (first | (with_reducible first | exact HB.out | apply below_alloc | apply pw_below_drewN | apply below_drew1 | refine below_set ?_ GE101.out | refine below_set ?_ GE102.out) | exact HB.out)⟩
                · rw [if_neg c16] at H
                  exact absurd H (by simp)
              · rw [if_neg c15] at H
                exact absurd H (by simp)
            · rw [if_neg c14] at H
              have c14b0 : decide (x5_2 < (l0_1.length : Int)) = false := decide_eq_false c14
              clear c14
              obtain rfl := Option.some.inj H
              have hnb24 := NB101_102.out
              have hnc24 := NB102_101.out
              have hcz25_0 : wr.cell? ⟨gb101, 0, none⟩ = some (.int .i64 a0_0) := (blk_cell BK101.out 0).trans rfl
              have hcz25_1 : wr.cell? ⟨gb101, 1, none⟩ = some (.slice A0_1 l0_1.length c0_1) := (blk_cell BK101.out 1).trans rfl
              have hfz25_0 := blk_frozen BK101.out 0
              have hfz25_1 := blk_frozen BK101.out 1
              go_wp2
              repeat (go_quiet (fail); try go_wp2)
              go_ret
              exact ⟨by first | rfl | (simp [errW_none, errW_some] <;> rfl) | (simp [*, errW_none, errW_some] <;> rfl), by repeat (first | (with_reducible first | exact HB.out | apply below_alloc | apply pw_below_drewN | apply below_drew1 | refine below_set ?_ GE101.out | refine below_set ?_ GE102.out) | exact HB.out)⟩
end Go.Proofs.Ytjmkhdhffmlhiaa.PAll
end
section
namespace Go.Proofs.Ytjmkhdhffmlhiaa.PAll
open Go.RowKit Go.Proofs.YtjmkhdhffmlhiaaW.PrintWords Go.Proofs.YtjmkhdhffmlhiaaW.PrintMore
theorem Ev.const {α : Type} {g : Nat → Option α} {r : α} (h : ∀ k, g k = some r) : Ev g r := ⟨0, fun k _ => h k⟩
theorem sized_yes {n : Nat} (h : n ≤ 4096) : bitset_sized.f (n : Int) = some true := by
  unfold bitset_sized.f
  rw [if_pos (by omega), decide_eq_true (by omega)]
theorem sized_no {n : Int} (h : n < 0 ∨ 4096 < n) : bitset_sized.f n = some false := by
  unfold bitset_sized.f
  by_cases h0 : n ≥ 0
  · rw [if_pos h0, decide_eq_false (by omega)]
  · rw [if_neg h0]
theorem words_eq {n : Nat} (h : n ≤ 4096) : bitset_words.f (n : Int) = some (((n + 63) / 64 : Nat) : Int) := by
  unfold bitset_words.f
  have h1 : wrap64 (wrap64 ((n : Int) + 64) - 1) = ((n + 63 : Nat) : Int) := by unfold wrap64; omega
  rw [h1, tdiv_nat]
  congr 1
  apply w64_nat <;> omega
theorem blank_eq {n : Nat} (h : n ≤ 4096) : bitset_blank.f (n : Int) = some ((n : Int), List.replicate ((n + 63) / 64) 0) := by
  unfold bitset_blank.f
  rw [words_eq h]
  simp only [Option.bind_some, Int.toNat_natCast]
  rw [if_pos (by omega), if_pos (by omega)]
theorem put_eq {n : Int} {ws : List Int} {e : Nat} (he : e / 64 < ws.length) (hb : e < 1000000) : bitset_put.f n ws (e : Int) = some (putw ws e) := by
  unfold bitset_put.f
  rw [tdiv_nat, tmod_nat, w64_nat (by omega) (by omega), if_pos (by omega), if_pos (by omega), if_pos (by omega)]
  simp only [Int.toNat_natCast, putw, rd_nat]
def MakeSays (size : Int) (l : List Int) (r : Int × List Int × Int) : Prop :=
  ((size < 0 ∨ 4096 < size) ∧ r = (0, [], 60)) ∨ (0 ≤ size ∧ size ≤ 4096 ∧ (((∃ x ∈ l, x < 0 ∨ size ≤ x) ∧ r = (0, [], 62)) ∨
    ((∀ x ∈ l, 0 ≤ x ∧ x < size) ∧ ∃ ws, Is size.toNat (fun e => decide ((e : Int) ∈ l)) ws ∧ r = (size, ws, 0))))
theorem MakeSays.eq {size : Int} {l : List Int} {r q : Int × List Int × Int} (h : MakeSays size l r) (k : MakeSays size l q) : r = q := by
  rcases h with ⟨h1, rfl⟩ | ⟨h1, h2, ⟨⟨x, h3, h4⟩, rfl⟩ | ⟨h3, ws, h4, rfl⟩⟩ <;> rcases k with ⟨k1, rfl⟩ | ⟨k1, k2, ⟨⟨y, k3, k4⟩, rfl⟩ | ⟨k3, vs, k4, rfl⟩⟩
  · rfl
  · omega
  · omega
  · omega
  · rfl
  · have := k3 x h3; omega
  · omega
  · have := h3 y k3; omega
  · rw [h4.eq k4 (fun _ _ => rfl)]
theorem Of_loop (inb : List Bool) (n : Nat) (hn : inb.length = n) (hb : n ≤ 4096) : ∀ (d i : Nat) (p : Nat → Bool) (ws : List Int), i + d = n → Is n p ws → (∀ e, p e = (decide (e < i) && inb.getD e false)) →
    ∃ ws', Is n (fun e => inb.getD e false) ws' ∧ Ev (fun k => sloperef3_Of.l0 k inb (i : Int) (n : Int) ws) ((n : Int), ws') := by
  intro d
  induction d with
  | zero =>
    intro i p ws hi h hp
    refine ⟨ws, h.congr fun e he => ?_, ⟨1, fun k hk => ?_⟩⟩
    · rw [hp]; simp; intro _; omega
    · obtain ⟨k, rfl⟩ : ∃ m, k = m + 1 := ⟨k - 1, by omega⟩
      simp only [sloperef3_Of.l0]
      rw [if_neg (by omega)]
  | succ d ih =>
    intro i p ws hi h hp
    have hr : rdOf false inb (i : Int) = inb.getD i false := by simp [rdOf]
    by_cases hx : inb.getD i false = true
    · obtain ⟨ws', h1, h2⟩ := ih (i + 1) _ (putw ws i) (by omega) (h.put (e := i) (by omega)) (fun e => by
        rw [hp]
        by_cases he : e = i
        · subst he; simp at hx; simp [hx]
        · have : (e < i + 1) = (e < i) := by simp; omega
          simp [he, this])
      refine ⟨ws', h1, Ev.step (fun k => ?_) h2⟩
      conv => lhs; rw [sloperef3_Of.l0]
      have hu : IntKind.u64.wrap ((i % 64 : Nat) : Int) = ((i % 64 : Nat) : Int) := wraps_u64 _ (by unfold Wd; omega)
      have hlt := h.lt (e := i) (by omega)
      rw [if_pos (by omega), if_pos (by omega), hr, if_pos hx, tdiv_nat, tmod_nat, w64_nat (by omega) (by omega), hu, if_pos (by omega), if_pos (by omega), if_pos (by omega)]
      rw [show wrap64 ((i : Int) + 1) = ((i + 1 : Nat) : Int) by unfold wrap64; omega]
      simp only [Int.toNat_natCast, putw, rd_nat]
    · obtain ⟨ws', h1, h2⟩ := ih (i + 1) p ws (by omega) h (fun e => by
        rw [hp]
        by_cases he : e = i
        · subst he; simp at hx; simp [hx]
        · have : (e < i + 1) = (e < i) := by simp; omega
          simp [this])
      refine ⟨ws', h1, Ev.step (fun k => ?_) h2⟩
      conv => lhs; rw [sloperef3_Of.l0]
      rw [if_pos (by omega), if_pos (by omega), hr, if_neg hx]
      rw [show wrap64 ((i : Int) + 1) = ((i + 1 : Nat) : Int) by unfold wrap64; omega]
theorem Of_eq (inb : List Bool) (hb : inb.length ≤ 4096) : ∃ ws, Is inb.length (fun e => inb.getD e false) ws ∧ Ev (fun k => sloperef3_Of.f k inb) ((inb.length : Int), ws) := by
  obtain ⟨ws, h1, h2⟩ := Of_loop inb inb.length rfl hb inb.length 0 _ _ (by omega) (Is.none inb.length) (fun e => by simp)
  refine ⟨ws, h1, Ev.congr (fun k => ?_) h2⟩
  unfold sloperef3_Of.f
  have h3 : wrap64 ((inb.length : Int) + 63) = ((inb.length + 63 : Nat) : Int) := by unfold wrap64; omega
  rw [h3, tdiv_nat, w64_nat (by omega) (by omega), if_pos (by omega), Int.toNat_natCast, if_pos (by omega)]
  rfl
end Go.Proofs.Ytjmkhdhffmlhiaa.PAll
end
section
namespace Go.Proofs.Ytjmkhdhffmlhiaa.PAll
set_option linter.unusedVariables false
set_option linter.unusedSimpArgs false
open Go.RowKit Go.Proofs.YtjmkhdhffmlhiaaW.PrintWords Go.Proofs.YtjmkhdhffmlhiaaW.PrintLast Go.Proofs.YtjmkhdhffmlhiaaW.PrintMore
theorem pfill_is {n : Nat} (hn : n ≤ 4096) {v : Nat} (hv : v < n) : ∀ (k e : Nat) (p : Nat → Bool) (ws : List Int), e ≤ v + 1 → k = v + 1 - e → Is n p ws →
    ∃ ws', pfill (n : Int) (v : Int) k (e : Int) ws = some ws' ∧ Is n (fun d => p d || (decide (e ≤ d) && decide (d ≤ v))) ws'
  | 0, e, p, ws, h1, h2, h => by
    refine ⟨ws, ?_, h.congr fun d _ => ?_⟩
    · rw [pfill, if_neg (by omega)]
    · have : (decide (e ≤ d) && decide (d ≤ v)) = false := by
        rw [Bool.and_eq_false_iff, decide_eq_false_iff_not, decide_eq_false_iff_not]
        omega
      rw [this, Bool.or_false]
  | k + 1, e, p, ws, h1, h2, h => by
    have he : e < n := by omega
    obtain ⟨ws', h3, h4⟩ := pfill_is hn hv k (e + 1) _ _ (by omega) (by omega) (h.put he)
    refine ⟨ws', ?_, h4.congr fun d _ => ?_⟩
    · rw [pfill, if_pos (by omega), put_eq (h.lt he) (by omega), Option.bind_some]
      exact h3
    · by_cases hd : d = e
      · subst hd
        have h5 : decide (d ≤ d) = true := by simp
        have h6 : decide (d ≤ v) = true := decide_eq_true (by omega)
        simp [h5, h6]
      · have h5 : decide (e + 1 ≤ d) = decide (e ≤ d) := by
          apply decide_eq_decide.2
          omega
        rw [decide_eq_false hd, Bool.or_false, h5]
def plaw (n : Nat) : List S95 → (Nat → Bool) → Int → (Nat → Bool) ⊕ (Int × Int)
  | [], p, _ => .inl p
  | x :: r, p, ah =>
    if 0 ≤ x.f0 ∧ x.f0 < (n : Int) then
      if x.f0 < (if x.f2 = true then ah + 1 else ah + 2) then .inr (x.f1, 1)
      else plaw n r (fun d => p d || (decide ((if x.f2 = true then ah else x.f0) ≤ (d : Int)) && decide ((d : Int) ≤ x.f0))) x.f0
    else .inr (x.f1, 62)
theorem pgo_is {n : Nat} (hn : n ≤ 4096) : ∀ (l : List S95) (p : Nat → Bool) (ws : List Int) (ah : Int), Is n p ws → (∀ x r, l = x :: r → x.f2 = true → 0 ≤ ah) →
    (∀ q, plaw n l p ah = .inl q → ∃ ws', pgo (n : Int) l ws ah = some ((n : Int), ws', 0, 0) ∧ Is n q ws') ∧ (∀ a c, plaw n l p ah = .inr (a, c) → pgo (n : Int) l ws ah = some (0, [], a, c))
  | [], p, ws, ah, h, _ => by
    refine ⟨fun q hq => ?_, fun a c hq => ?_⟩
    · unfold plaw at hq
      injection hq with hq
      subst hq
      exact ⟨ws, rfl, h⟩
    · unfold plaw at hq
      cases hq
  | x :: r, p, ws, ah, h, hf => by
    unfold plaw
    by_cases hx : 0 ≤ x.f0 ∧ x.f0 < (n : Int)
    · rw [if_pos hx]
      by_cases hl : x.f0 < (if x.f2 = true then ah + 1 else ah + 2)
      · rw [if_pos hl]
        refine ⟨fun q hq => (by cases hq), fun a c hq => ?_⟩
        injection hq with hq
        injection hq with h1 h2
        subst h1 h2
        exact pgo_low hx.1 hx.2 hl
      · rw [if_neg hl]
        obtain ⟨v, hv⟩ : ∃ v : Nat, x.f0 = (v : Int) := ⟨x.f0.toNat, by omega⟩
        obtain ⟨e, he⟩ : ∃ e : Nat, (if x.f2 = true then ah else x.f0) = (e : Int) := by
          by_cases h2 : x.f2 = true
          · rw [if_pos h2]
            exact ⟨ah.toNat, by have := hf x r rfl h2; omega⟩
          · rw [if_neg h2]
            exact ⟨v, hv⟩
        have hev : e ≤ v + 1 := by
          by_cases h2 : x.f2 = true
          · rw [if_pos h2] at he hl
            omega
          · rw [if_neg h2] at he
            omega
        obtain ⟨w2, h3, h4⟩ := pfill_is hn (show v < n by omega) (v + 1 - e) e p ws hev rfl h
        have hg : pgo (n : Int) (x :: r) ws ah = pgo (n : Int) r w2 x.f0 := by
          rw [pgo_next hx.1 hx.2 hl, he, if_pos (by omega), hv, show ((v : Int) + 1 - (e : Int)).toNat = v + 1 - e from by omega, h3, Option.bind_some]
        have hp : (fun d : Nat => p d || (decide ((if x.f2 = true then ah else x.f0) ≤ (d : Int)) && decide ((d : Int) ≤ x.f0))) = fun d => p d || (decide (e ≤ d) && decide (d ≤ v)) := by
          funext d
          rw [he, hv]
          simp only [Int.ofNat_le]
        rw [hg, hp]
        exact pgo_is hn r _ w2 x.f0 h4 (fun _ _ _ _ => hx.1)
    · rw [if_neg hx]
      refine ⟨fun q hq => (by cases hq), fun a c hq => ?_⟩
      injection hq with hq
      injection hq with h1 h2
      subst h1 h2
      exact pgo_far (by omega)
end Go.Proofs.Ytjmkhdhffmlhiaa.PAll
end
section
namespace Go.Proofs.Ytjmkhdhffmlhiaa.PAll
set_option linter.unusedVariables false
set_option linter.unusedSimpArgs false
open Go.RowKit Go.Proofs.YtjmkhdhffmlhiaaW.PrintWords Go.Proofs.YtjmkhdhffmlhiaaW.PrintLast Go.Proofs.YtjmkhdhffmlhiaaW.PrintMore
theorem ngo_ok (t : ByteArray) : ∀ (f : Nat) (l : List S95) (i : Nat), (ngo t f l i).2 < 0 → (ngo t f l i).2 = -1 ∧ ∃ r, (ngo t f l i).1 = l ++ r ∧ r.length ≤ f ∧ (l.length = 1 → ∀ y s, r = y :: s → y.f2 = false)
  | 0, l, i, h => by
    unfold ngo at h
    simp only at h
    omega
  | f + 1, l, i, h => by
    have hl1 : l.length = 1 → lastAt t l i = false := fun h1 => by
      unfold lastAt
      rw [h1]
      rfl
    unfold ngo at h ⊢
    split at h
    · rename_i c1
      rw [if_pos c1]
      split at h
      · rename_i c2
        rw [if_pos c2]
        split at h
        · rename_i c3
          rw [if_pos c3]
          refine ⟨rfl, [⟨dnum t i, (i : Int), lastAt t l i⟩], rfl, by simp, fun h1 y s e => ?_⟩
          injection e with e1 _
          rw [← e1]
          exact hl1 h1
        · rename_i c3
          rw [if_neg c3]
          split at h
          · rename_i c4
            rw [if_pos c4]
            obtain ⟨h2, r, h3, h4, _⟩ := ngo_ok t f _ _ h
            refine ⟨h2, ⟨dnum t i, (i : Int), lastAt t l i⟩ :: r, ?_, by simp only [List.length_cons]; omega, fun h1 y s e => ?_⟩
            · rw [h3, List.append_assoc]
              rfl
            · injection e with e1 _
              rw [← e1]
              exact hl1 h1
          · simp only at h
            omega
      · simp only at h
        omega
    · rename_i c1
      rw [if_neg c1]
      exact ⟨rfl, [], by simp, by simp, fun _ y s e => by cases e⟩
theorem nums_ok (t : ByteArray) (h : (nums t).2 < 0) : ∃ x0 l, nums t = (x0 :: l, -1) ∧ l.length ≤ t.size + 1 ∧ (∀ y s, l = y :: s → y.f2 = false) := by
  unfold nums at h ⊢
  split at h
  · rename_i c
    rw [if_pos c]
    obtain ⟨h2, r, h3, h4, h5⟩ := ngo_ok t _ _ _ h
    exact ⟨_, r, Prod.ext h3 h2, h4, h5 rfl⟩
  · simp only at h
    omega
def ParseSays (t : ByteArray) (r : Int × List Int × Int × Int) : Prop :=
  if 65536 < t.size then r = (0, [], 65536, 4)
  else if 0 ≤ (nums t).2 then r = (0, [], (nums t).2, 5)
  else ∃ x0 l, nums t = (x0 :: l, -1) ∧
    ((¬ (0 ≤ x0.f0 ∧ x0.f0 ≤ 4096) ∧ r = (0, [], 0, 60)) ∨
     ∃ n : Nat, x0.f0 = (n : Int) ∧ n ≤ 4096 ∧
      ((∃ q ws, plaw n l (fun _ => false) (-2) = .inl q ∧ Is n q ws ∧ r = ((n : Int), ws, 0, 0)) ∨ ∃ a c, plaw n l (fun _ => false) (-2) = .inr (a, c) ∧ r = (0, [], a, c)))
theorem Parse_says (t : ByteArray) (w : World) : ∃ r, ParseSays t r ∧
    Calls Try.prog 35 #[.string t] w fun e w' => ∃ v : Value, e = .returned (.tuple #[.agg #[.int .i64 r.1, v], .int .i64 r.2.2.1, .int .i64 r.2.2.2]) ∧ Kd.R (Kd.int .u64) 82 w' w.heap.size (fun _ => True) v r.2.1 ∧ Below w.heap.size w w' := by
  by_cases hz : 65536 < t.size
  · refine ⟨(0, [], 65536, 4), ?_, Parse_long t w (by omega)⟩
    unfold ParseSays
    rw [if_pos hz]
  · have hs : t.size ≤ 65536 := by omega
    have hnf := numbers_f t hs (3 * (t.size + 1) + 2 * (t.size + 1) + 1) (Nat.le_refl _)
    by_cases hq : 0 ≤ (nums t).2
    · refine ⟨(0, [], (nums t).2, 5), ?_, Parse_digit t w _ (nums t).1 (nums t).2 (by omega) hnf hq⟩
      unfold ParseSays
      rw [if_neg hz, if_pos hq]
    · obtain ⟨x0, l, hn, hl, hf⟩ := nums_ok t (by omega)
      rw [hn] at hnf
      by_cases hx : 0 ≤ x0.f0 ∧ x0.f0 ≤ 4096
      · obtain ⟨n, hn0⟩ : ∃ n : Nat, x0.f0 = (n : Int) := ⟨x0.f0.toNat, by omega⟩
        have hn4 : n ≤ 4096 := by omega
        have hg := pgo_is hn4 l (fun _ => false) _ (-2) (Is.none n) (fun x r e h2 => by rw [hf x r e] at h2; cases h2)
        have hP := fun r1 rw r3 r4 h => Parse_yes _ t x0 l n _ rw r1 r3 r4 w (by omega) hnf hn0 hn4 (by omega) (sized_yes hn4) (blank_eq hn4) h
        cases hp : plaw n l (fun _ => false) (-2) with
        | inl q =>
          obtain ⟨ws, h1, h2⟩ := hg.1 q hp
          refine ⟨((n : Int), ws, 0, 0), ?_, hP _ _ _ _ h1⟩
          unfold ParseSays
          rw [if_neg hz, if_neg hq]
          exact ⟨x0, l, hn, .inr ⟨n, hn0, hn4, .inl ⟨q, ws, hp, h2, rfl⟩⟩⟩
        | inr ac =>
          obtain ⟨a, c⟩ := ac
          refine ⟨(0, [], a, c), ?_, hP _ _ _ _ (hg.2 a c hp)⟩
          unfold ParseSays
          rw [if_neg hz, if_neg hq]
          exact ⟨x0, l, hn, .inr ⟨n, hn0, hn4, .inr ⟨a, c, hp, rfl⟩⟩⟩
      · refine ⟨(0, [], 0, 60), ?_, Parse_wide t w _ x0 l (by omega) hnf (sized_no (by omega))⟩
        unfold ParseSays
        rw [if_neg hz, if_neg hq]
        exact ⟨x0, l, hn, .inl ⟨hx, rfl⟩⟩
end Go.Proofs.Ytjmkhdhffmlhiaa.PAll
end
section
namespace Go.Proofs.Ytjmkhdhffmlhiaa.PAll
open Go.RowKit Go.Proofs.YtjmkhdhffmlhiaaW.PrintWords Go.Proofs.YtjmkhdhffmlhiaaW.PrintLast Go.Proofs.YtjmkhdhffmlhiaaW.PrintMore
attribute [local go_sem] max2_int min2_int max_two min_two max_three min_three max_four min_four w64_u8 w64_mod256   -- for this text's walks alone
set_option linter.unusedVariables false
set_option linter.unusedSimpArgs false
def sloperef3_after.f (a0 : Int) (a1 : Int) : Option (Bool) := if a0 = 0 then (some (a1 == 58)) else (if a0 = 1 then (if a1 = 44 then (some true) else (some (a1 == 45))) else (some (a1 == 44)))
set_option maxHeartbeats 8000000 in
set_option maxRecDepth 100000 in
theorem sloperef3_after.calls (a0 : Int) (a1 : Int) (r : Bool) (w : World) (h : sloperef3_after.f a0 a1 = some r) :
    Calls Try.prog 84 #[.int .i64 a0, .int .u8 a1] w fun e w' => e = .returned (.bool r) ∧ Drawn0 w w' := by
  have H : (if a0 = 0 then (some (a1 == 58)) else (if a0 = 1 then (if a1 = 44 then (some true) else (some (a1 == 45))) else (some (a1 == 44)))) = some r := h
  clear h
  by_cases c3 : a0 = 0
  · rw [if_pos c3] at H
    have c3b0 : (a0 == 0) = true := beq_iff_eq.mpr c3
    have c3b1 : (a0 != 0) = false := bne_eq_false_iff_eq.mpr c3
    clear c3
    obtain rfl := Option.some.inj H
    go_enter Try.func84, Try.ntmps84
    go_wp2
    go_ret
    exact ⟨by first | rfl | (simp; done) | (simp [*]; done), by repeat (first | exact Drawn0.refl _ | apply Drawn0.step)⟩
  · rw [if_neg c3] at H
    have c3b0 : (a0 == 0) = false := beq_eq_false_iff_ne.mpr c3
    have c3b1 : (a0 != 0) = true := bne_iff_ne.mpr c3
    by_cases c4 : a0 = 1
    · rw [if_pos c4] at H
      have c4b0 : (a0 == 1) = true := beq_iff_eq.mpr c4
      have c4b1 : (a0 != 1) = false := bne_eq_false_iff_eq.mpr c4
      clear c4
      by_cases c5 : a1 = 44
      · rw [if_pos c5] at H
        have c5b0 : (a1 == 44) = true := beq_iff_eq.mpr c5
        have c5b1 : (a1 != 44) = false := bne_eq_false_iff_eq.mpr c5
        clear c5
        obtain rfl := Option.some.inj H
        go_enter Try.func84, Try.ntmps84
        go_wp2
        go_ret
        exact ⟨by first | rfl | (simp; done) | (simp [*]; done), by repeat (first | exact Drawn0.refl _ | apply Drawn0.step)⟩
      · rw [if_neg c5] at H
        have c5b0 : (a1 == 44) = false := beq_eq_false_iff_ne.mpr c5
        have c5b1 : (a1 != 44) = true := bne_iff_ne.mpr c5
        obtain rfl := Option.some.inj H
        go_enter Try.func84, Try.ntmps84
        go_wp2
        go_ret
        exact ⟨by first | rfl | (simp; done) | (simp [*]; done), by repeat (first | exact Drawn0.refl _ | apply Drawn0.step)⟩
    · rw [if_neg c4] at H
      have c4b0 : (a0 == 1) = false := beq_eq_false_iff_ne.mpr c4
      have c4b1 : (a0 != 1) = true := bne_iff_ne.mpr c4
      obtain rfl := Option.some.inj H
      go_enter Try.func84, Try.ntmps84
      go_wp2
      go_ret
      exact ⟨by first | rfl | (simp; done) | (simp [*]; done), by repeat (first | exact Drawn0.refl _ | apply Drawn0.step)⟩
end Go.Proofs.Ytjmkhdhffmlhiaa.PAll
end
section
namespace Go.Proofs.Ytjmkhdhffmlhiaa.PAll
open Go.RowKit Go.Proofs.YtjmkhdhffmlhiaaW.PrintWords Go.Proofs.YtjmkhdhffmlhiaaW.PrintLast Go.Proofs.YtjmkhdhffmlhiaaW.PrintMore
attribute [local go_sem] max2_int min2_int max_two min_two max_three min_three max_four min_four w64_u8 w64_mod256   -- for this text's walks alone
set_option linter.unusedVariables false
set_option linter.unusedSimpArgs false
mutual
def sloperef3_form.l0 : Nat → ByteArray → List (S100) → Int → Int → Int → Int → Int → Int → Option ((List (S100)) × Int)
  | 0, _, _, _, _, _, _, _, _ => none
  | k + 1, x0, x4, x6, x7, x8, x102000, x102001, x102002 => if x8 < (x0.size : Int) then (if 0 ≤ x8 then (if (bt x0 x8) ≥ 48 then (if (bt x0 x8) ≤ 57 then (if x7 = 0 then (sloperef3_form.j1 k x0 x4 x6 x7 x8 (bt x0 x8) true x102000 x102001 x102002) else (if 0 ≤ x102001 then (if x102001 < (x0.size : Int) then (sloperef3_form.j1 k x0 x4 x6 x7 x8 (bt x0 x8) ((bt x0 x102001) != 48) x102000 x102001 x102002) else (none)) else (none))) else (sloperef3_form.j1 k x0 x4 x6 x7 x8 (bt x0 x8) false x102000 x102001 x102002)) else (sloperef3_form.j1 k x0 x4 x6 x7 x8 (bt x0 x8) false x102000 x102001 x102002)) else (none)) else (if x7 = 0 then (if (x4.length : Int) = 1 then (if x6 = 1 then (if x7 > 0 then (sloperef3_form.j3 k x0 x4 x7 (x6 == 0) x102000 x102001 x102002) else (sloperef3_form.j3 k x0 x4 x7 false x102000 x102001 x102002)) else (sloperef3_form.j3 k x0 x4 x7 true x102000 x102001 x102002)) else (sloperef3_form.j3 k x0 x4 x7 true x102000 x102001 x102002)) else (if x7 > 0 then (sloperef3_form.j3 k x0 x4 x7 (x6 == 0) x102000 x102001 x102002) else (sloperef3_form.j3 k x0 x4 x7 false x102000 x102001 x102002)))
def sloperef3_form.j1 : Nat → ByteArray → List (S100) → Int → Int → Int → Int → Bool → Int → Int → Int → Option ((List (S100)) × Int)
  | 0, _, _, _, _, _, _, _, _, _, _ => none
  | k + 1, x0, x4, x6, x7, x8, x9, x35, x102000, x102001, x102002 => if x35 = true then (if x7 = 0 then (if 0 < 100000 then (sloperef3_form.l0 k x0 x4 x6 (wrap64 (x7 + 1)) (wrap64 (x8 + 1)) ((x9 - 48) % 256) x8 0) else (sloperef3_form.l0 k x0 x4 x6 (wrap64 (x7 + 1)) (wrap64 (x8 + 1)) 0 x8 0)) else (if x102000 < 100000 then (sloperef3_form.l0 k x0 x4 x6 (wrap64 (x7 + 1)) (wrap64 (x8 + 1)) (wrap64 ((wrap64 (10 * x102000)) + ((x9 - 48) % 256))) x102001 x102002) else (sloperef3_form.l0 k x0 x4 x6 (wrap64 (x7 + 1)) (wrap64 (x8 + 1)) x102000 x102001 x102002))) else (if x7 = 0 then (sloperef3_form.j2 k x0 x4 x8 x9 true x102000 x102001 x102002) else ((sloperef3_after.f x6 x9).bind fun t102 => (sloperef3_form.j2 k x0 x4 x8 x9 (!t102) x102000 x102001 x102002)))
def sloperef3_form.j2 : Nat → ByteArray → List (S100) → Int → Int → Bool → Int → Int → Int → Option ((List (S100)) × Int)
  | 0, _, _, _, _, _, _, _, _ => none
  | k + 1, x0, x4, x8, x9, x60, x102000, x102001, x102002 => if x60 = true then (some (x4, x8)) else (if x4.length < 5864062014805 then ((some (x4 ++ [(⟨x102000, x102001, x9⟩ : S100)] : List (S100))).bind fun y103 => (if x9 = 45 then (sloperef3_form.l0 k x0 y103 2 0 (wrap64 (x8 + 1)) x102000 x102001 x9) else (sloperef3_form.l0 k x0 y103 1 0 (wrap64 (x8 + 1)) x102000 x102001 x9))) else (none))
def sloperef3_form.j3 : Nat → ByteArray → List (S100) → Int → Bool → Int → Int → Int → Option ((List (S100)) × Int)
  | 0, _, _, _, _, _, _, _ => none
  | k + 1, x0, x4, x7, x89, x102000, x102001, x102002 => if x89 = true then (some (x4, (x0.size : Int))) else (if x7 > 0 then (if x4.length < 5864062014805 then (some ((x4 ++ [(⟨x102000, x102001, x102002⟩ : S100)]), (-1))) else (none)) else (some (x4, (-1))))
end
def sloperef3_form.f (k : Nat) (a0 : ByteArray) : Option ((List (S100)) × Int) := sloperef3_form.l0 k a0 ([] : List (S100)) 0 0 0 0 0 0
theorem sloperef3_form.mono_l : ∀ k, (∀ y0 y1 y2 y3 y4 y5 y6 y7, LeO (sloperef3_form.l0 k y0 y1 y2 y3 y4 y5 y6 y7) (sloperef3_form.l0 (k + 1) y0 y1 y2 y3 y4 y5 y6 y7)) ∧ (∀ y0 y1 y2 y3 y4 y5 y6 y7 y8 y9, LeO (sloperef3_form.j1 k y0 y1 y2 y3 y4 y5 y6 y7 y8 y9) (sloperef3_form.j1 (k + 1) y0 y1 y2 y3 y4 y5 y6 y7 y8 y9)) ∧ (∀ y0 y1 y2 y3 y4 y5 y6 y7, LeO (sloperef3_form.j2 k y0 y1 y2 y3 y4 y5 y6 y7) (sloperef3_form.j2 (k + 1) y0 y1 y2 y3 y4 y5 y6 y7)) ∧ (∀ y0 y1 y2 y3 y4 y5 y6, LeO (sloperef3_form.j3 k y0 y1 y2 y3 y4 y5 y6) (sloperef3_form.j3 (k + 1) y0 y1 y2 y3 y4 y5 y6))
  | 0 => ⟨fun _ _ _ _ _ _ _ _ r h => by simp [sloperef3_form.l0] at h, fun _ _ _ _ _ _ _ _ _ _ r h => by simp [sloperef3_form.j1] at h, fun _ _ _ _ _ _ _ _ r h => by simp [sloperef3_form.j2] at h, fun _ _ _ _ _ _ _ r h => by simp [sloperef3_form.j3] at h⟩
  | k + 1 => by
    obtain ⟨ih0, ih1, ih2, ih3⟩ := sloperef3_form.mono_l k
    refine ⟨?_, ?_, ?_, ?_⟩
    · intro y0 y1 y2 y3 y4 y5 y6 y7
      unfold sloperef3_form.l0
      repeat' first
      | (with_reducible exact ih0 _ _ _ _ _ _ _ _)
      | (with_reducible exact ih1 _ _ _ _ _ _ _ _ _ _)
      | (with_reducible exact ih2 _ _ _ _ _ _ _ _)
      | (with_reducible exact ih3 _ _ _ _ _ _ _)
      | (with_reducible exact LeO.refl _)
      | (with_reducible exact LeO.none _)
      | (with_reducible refine LeO.ite ?_ ?_)
      | (with_reducible refine LeO.bind ?_ (fun _ => ?_))
      | exact ih0 _ _ _ _ _ _ _ _
      | exact ih1 _ _ _ _ _ _ _ _ _ _
      | exact ih2 _ _ _ _ _ _ _ _
      | exact ih3 _ _ _ _ _ _ _
      | exact LeO.none _
      | refine LeO.ite ?_ ?_
      | refine LeO.bind ?_ (fun _ => ?_)
    · intro y0 y1 y2 y3 y4 y5 y6 y7 y8 y9
      unfold sloperef3_form.j1
      repeat' first
      | (with_reducible exact ih0 _ _ _ _ _ _ _ _)
      | (with_reducible exact ih1 _ _ _ _ _ _ _ _ _ _)
      | (with_reducible exact ih2 _ _ _ _ _ _ _ _)
      | (with_reducible exact ih3 _ _ _ _ _ _ _)
      | (with_reducible exact LeO.refl _)
      | (with_reducible exact LeO.none _)
      | (with_reducible refine LeO.ite ?_ ?_)
      | (with_reducible refine LeO.bind ?_ (fun _ => ?_))
      | exact ih0 _ _ _ _ _ _ _ _
      | exact ih1 _ _ _ _ _ _ _ _ _ _
      | exact ih2 _ _ _ _ _ _ _ _
      | exact ih3 _ _ _ _ _ _ _
      | exact LeO.none _
      | refine LeO.ite ?_ ?_
      | refine LeO.bind ?_ (fun _ => ?_)
    · intro y0 y1 y2 y3 y4 y5 y6 y7
      unfold sloperef3_form.j2
      repeat' first
      | (with_reducible exact ih0 _ _ _ _ _ _ _ _)
      | (with_reducible exact ih1 _ _ _ _ _ _ _ _ _ _)
      | (with_reducible exact ih2 _ _ _ _ _ _ _ _)
      | (with_reducible exact ih3 _ _ _ _ _ _ _)
      | (with_reducible exact LeO.refl _)
      | (with_reducible exact LeO.none _)
      | (with_reducible refine LeO.ite ?_ ?_)
      | (with_reducible refine LeO.bind ?_ (fun _ => ?_))
      | exact ih0 _ _ _ _ _ _ _ _
      | exact ih1 _ _ _ _ _ _ _ _ _ _
      | exact ih2 _ _ _ _ _ _ _ _
      | exact ih3 _ _ _ _ _ _ _
      | exact LeO.none _
      | refine LeO.ite ?_ ?_
      | refine LeO.bind ?_ (fun _ => ?_)
    · intro y0 y1 y2 y3 y4 y5 y6
      unfold sloperef3_form.j3
      repeat' first
      | (with_reducible exact ih0 _ _ _ _ _ _ _ _)
      | (with_reducible exact ih1 _ _ _ _ _ _ _ _ _ _)
      | (with_reducible exact ih2 _ _ _ _ _ _ _ _)
      | (with_reducible exact ih3 _ _ _ _ _ _ _)
      | (with_reducible exact LeO.refl _)
      | (with_reducible exact LeO.none _)
      | (with_reducible refine LeO.ite ?_ ?_)
      | (with_reducible refine LeO.bind ?_ (fun _ => ?_))
      | exact ih0 _ _ _ _ _ _ _ _
      | exact ih1 _ _ _ _ _ _ _ _ _ _
      | exact ih2 _ _ _ _ _ _ _ _
      | exact ih3 _ _ _ _ _ _ _
      | exact LeO.none _
      | refine LeO.ite ?_ ?_
      | refine LeO.bind ?_ (fun _ => ?_)
theorem sloperef3_form.mono : ∀ a0 k, LeO (sloperef3_form.f k a0) (sloperef3_form.f (k + 1) a0) := by
  intro a0 k
  obtain ⟨ih0, ih1, ih2, ih3⟩ := sloperef3_form.mono_l k
  unfold sloperef3_form.f
  repeat' first
      | (with_reducible exact ih0 _ _ _ _ _ _ _ _)
      | (with_reducible exact ih1 _ _ _ _ _ _ _ _ _ _)
      | (with_reducible exact ih2 _ _ _ _ _ _ _ _)
      | (with_reducible exact ih3 _ _ _ _ _ _ _)
      | (with_reducible exact LeO.refl _)
      | (with_reducible exact LeO.none _)
      | (with_reducible refine LeO.ite ?_ ?_)
      | (with_reducible refine LeO.bind ?_ (fun _ => ?_))
      | exact ih0 _ _ _ _ _ _ _ _
      | exact ih1 _ _ _ _ _ _ _ _ _ _
      | exact ih2 _ _ _ _ _ _ _ _
      | exact ih3 _ _ _ _ _ _ _
      | exact LeO.none _
      | refine LeO.ite ?_ ?_
      | refine LeO.bind ?_ (fun _ => ?_)
set_option maxHeartbeats 8000000 in
set_option maxRecDepth 100000 in
theorem sloperef3_form.calls (k : Nat) (a0 : ByteArray) (r1 : List (S100)) (r2 : Int) (w : World) (h : sloperef3_form.f k a0 = some (r1, r2)) :
    Calls Try.prog 73 #[.string a0] w fun e w' => ∃ v0_ : Value, e = .returned (.tuple #[v0_, .int .i64 r2]) ∧ Kd.R k100 100 w' w.heap.size (fun _ => True) v0_ r1 ∧ Below w.heap.size w w' := by
  have hu100 := Try.underlying100
  have HB := Aside0.mk (Below.refl w.heap.size w)
  have H : (sloperef3_form.l0 k a0 ([] : List (S100)) 0 0 0 0 0 0) = some (r1, r2) := h
  clear h
  have H' := Aside0.mk H
  clear H
  go_enter Try.func73, Try.ntmps73
  go_wp2_with (first | ((with_reducible refine gate_dst (N := 5) rfl ?_); (try (refine gate_guard (by rfl) ?_; dsimp only)); refine box_event ?hg (N := 5) ?hd (cs := #[.int .i64 0, .int .i64 0, .int .u8 0]) (t := 100) ?hr ?_; (case hd => rfl); (case hg => rfl); (case hr => first | (go_simp; done) | (go_simp; rfl)); intro gb101 hg w2 hbox hb; have n0_ := Aside0.mk (below_step (by repeat (first | (with_reducible first | exact HB.out | apply below_alloc | apply pw_below_drewN | apply below_drew1) | exact HB.out)) hb); have n1_ := Aside0.mk (hbox); have n2_ := Aside0.mk ((by rw [hg]; exact (below_size (by repeat (first | (with_reducible first | exact HB.out | apply below_alloc | apply pw_below_drewN | apply below_drew1) | exact HB.out))) : w.heap.size ≤ gb101)); have n3_ := Aside0.mk ((by rw [hg]; exact (below_size (by repeat (first | (with_reducible first | exact HB.out | apply below_alloc | apply pw_below_drewN | apply below_drew1) | exact HB.out))) : w.heap.size ≤ gb101)); clear HB; have HB := n0_; have BK101 := n1_; have GW101 := n2_; have GE101 := n3_; clear n0_ n1_ n2_ n3_; clear hb hbox hg))
  go_loopg [4, 6, 7, 8] k (fun kq v4 v6 v7 v8 w' => ∃ (x4_1 : List (S100)) (x6_1 : Int) (x7_1 : Int) (x8_1 : Int) (x102000_1 : Int) (x102001_1 : Int) (x102002_1 : Int), v6 = .int .i64 x6_1 ∧ v7 = .int .i64 x7_1 ∧ v8 = .int .i64 x8_1 ∧ Aside0 (sloperef3_form.l0 kq a0 x4_1 x6_1 x7_1 x8_1 x102000_1 x102001_1 x102002_1 = some (r1, r2)) ∧ Aside0 (kq ≤ k) ∧ Aside0 (Kd.R k100 100 w' w.heap.size (fun k_ => k_ ≠ gb101) v4 x4_1) ∧ Aside0 (w'.heap[gb101]? = some (.cells #[.int .i64 x102000_1, .int .i64 x102001_1, .int .u8 x102002_1] 100 (0, 0))) ∧ Aside0 (Below w.heap.size w w'))
  case atStart => exact ⟨(([] : List (S100))), (0), (0), (0), (0), (0), (0), (by first | rfl | (simp; done) | (simp [*]; done)), (by first | rfl | (simp; done) | (simp [*]; done)), (by first | rfl | (simp; done) | (simp [*]; done)), H', ⟨Nat.le_refl _⟩, ⟨by first | exact Kd.R_nil _ _ _ _ _ | exact Kd.N_nil _ _ _ _ _ | exact Kd.V_nil _ _ _ _ _ | exact Kd.Q_nil _ _ _ _ _ | exact Kd.S_nil _ _ _ _ _⟩, ⟨by (with_reducible repeat (first | refine blk_drewN ?_ _ | refine blk_drew ?_ | refine blk_alloc ?_ _)); exact BK101.out⟩, ⟨by repeat (first | (with_reducible first | exact HB.out | apply below_alloc | apply pw_below_drewN | apply below_drew1 | refine below_set ?_ GE101.out) | exact HB.out)⟩⟩
  case round =>
    clear H'
    try clear p2
    obtain ⟨x4_1, x6_1, x7_1, x8_1, x102000_1, x102001_1, x102002_1, rfl, rfl, rfl, HA, HK1, HO_4, BK101, HB⟩ := hrel
    cases gk with
    | zero => exact absurd HA.out (by simp [sloperef3_form.l0])
    | succ k1 =>
      have H := HA.out
      clear HA
      simp only [sloperef3_form.l0] at H
      by_cases c3 : x8_1 < (a0.size : Int)
      · rw [if_pos c3] at H
        have c3b0 : decide (x8_1 < (a0.size : Int)) = true := decide_eq_true c3
        clear c3
        by_cases c4 : 0 ≤ x8_1
        · rw [if_pos c4] at H
          have c4b0 : decide (0 ≤ x8_1) = true := decide_eq_true c4
          clear c4
          have HC6 := Aside0.mk H
          clear H
          have p5 : 0 ≤ (x8_1 : Int) := of_decide_eq_true (by first | (with_reducible assumption) | assumption)
          have q5 : x8_1 < (a0.size : Int) := of_decide_eq_true (by first | (with_reducible assumption) | assumption)
          have hx5 := bt_at a0 x8_1
          replace p5 := eq_true p5
          replace q5 := eq_true q5
          go_upto_region 9 with (fail)
          go_cut [35] (fun v35 wc => ∃ (kq : Nat) (x35_5 : Bool), v35 = .bool x35_5 ∧ Aside0 (sloperef3_form.j1 kq a0 x4_1 x6_1 x7_1 x8_1 (bt a0 x8_1) x35_5 x102000_1 x102001_1 x102002_1 = some (r1, r2)) ∧ Aside0 (kq ≤ k1) ∧ Aside0 (Kd.R k100 100 wc w.heap.size (fun k_ => k_ ≠ gb101) u4 x4_1) ∧ Aside0 (wc.heap[gb101]? = some (.cells #[.int .i64 x102000_1, .int .i64 x102001_1, .int .u8 x102002_1] 100 (0, 0))) ∧ Aside0 (Below w.heap.size w wc))
          case first =>
            have H := HC6.out
            clear HC6
            by_cases c7 : (bt a0 x8_1) ≥ 48
            · rw [if_pos c7] at H
              have c7b0 : decide (48 ≤ (bt a0 x8_1)) = true := decide_eq_true c7
              clear c7
              (first | rw [c7b0] | (simp only [i64_w, i32_w]; rw [c7b0]) | skip)
              by_cases c8 : (bt a0 x8_1) ≤ 57
              · rw [if_pos c8] at H
                have c8b0 : decide ((bt a0 x8_1) ≤ 57) = true := decide_eq_true c8
                clear c8
                by_cases c9 : x7_1 = 0
                · rw [if_pos c9] at H
                  have c9b0 : (x7_1 == 0) = true := beq_iff_eq.mpr c9
                  have c9b1 : (x7_1 != 0) = false := bne_eq_false_iff_eq.mpr c9
                  clear c9
                  have H' := Aside0.mk H
                  clear H
                  go_wp2
                  go_meet
                  case rel => exact ⟨_, (true), (by first | rfl | (simp; done) | (simp [*]; done)), H', ⟨by have := HK1.out; first | omega | exact Nat.le_refl _⟩, ⟨by (with_reducible repeat (first | apply Kd.R_alloc | apply Kd.R_drewN | apply Kd.R_drew)); exact HO_4.out⟩, ⟨by (with_reducible repeat (first | refine blk_drewN ?_ _ | refine blk_drew ?_ | refine blk_alloc ?_ _)); exact BK101.out⟩, ⟨by repeat (first | (with_reducible first | exact HB.out | apply below_alloc | apply pw_below_drewN | apply below_drew1 | refine below_set ?_ GE101.out) | exact HB.out)⟩⟩
                · rw [if_neg c9] at H
                  have c9b0 : (x7_1 == 0) = false := beq_eq_false_iff_ne.mpr c9
                  have c9b1 : (x7_1 != 0) = true := bne_iff_ne.mpr c9
                  by_cases c10 : 0 ≤ x102001_1
                  · rw [if_pos c10] at H
                    have c10b0 : decide (0 ≤ x102001_1) = true := decide_eq_true c10
                    clear c10
                    by_cases c11 : x102001_1 < (a0.size : Int)
                    · rw [if_pos c11] at H
                      have c11b0 : decide (x102001_1 < (a0.size : Int)) = true := decide_eq_true c11
                      clear c11
                      have H' := Aside0.mk H
                      clear H
                      have hcz13_0 : wr.cell? ⟨gb101, 0, none⟩ = some (.int .i64 x102000_1) := (blk_cell BK101.out 0).trans rfl
                      have hcz13_1 : wr.cell? ⟨gb101, 1, none⟩ = some (.int .i64 x102001_1) := (blk_cell BK101.out 1).trans rfl
                      have hcz13_2 : wr.cell? ⟨gb101, 2, none⟩ = some (.int .u8 x102002_1) := (blk_cell BK101.out 2).trans rfl
                      have hfz13_0 := blk_frozen BK101.out 0
                      have hfz13_1 := blk_frozen BK101.out 1
                      have hfz13_2 := blk_frozen BK101.out 2
                      have p12 : 0 ≤ (x102001_1 : Int) := of_decide_eq_true (by first | (with_reducible assumption) | assumption)
                      have q12 : x102001_1 < (a0.size : Int) := of_decide_eq_true (by first | (with_reducible assumption) | assumption)
                      have hx12 := bt_at a0 x102001_1
                      replace p12 := eq_true p12
                      replace q12 := eq_true q12
                      go_wp2
                      go_meet
                      case rel => exact ⟨_, (((bt a0 x102001_1) != 48)), (by first | rfl | (simp; done) | (simp [*]; done)), H', ⟨by have := HK1.out; first | omega | exact Nat.le_refl _⟩, ⟨by (with_reducible repeat (first | apply Kd.R_alloc | apply Kd.R_drewN | apply Kd.R_drew)); exact HO_4.out⟩, ⟨by (with_reducible repeat (first | refine blk_drewN ?_ _ | refine blk_drew ?_ | refine blk_alloc ?_ _)); exact BK101.out⟩, ⟨by repeat (first | (with_reducible first | exact HB.out | apply below_alloc | apply pw_below_drewN | apply below_drew1 | refine below_set ?_ GE101.out) | exact HB.out)⟩⟩
                    · rw [if_neg c11] at H
                      exact absurd H (by simp)
                  · rw [if_neg c10] at H
                    exact absurd H (by simp)
              · rw [if_neg c8] at H
                have c8b0 : decide ((bt a0 x8_1) ≤ 57) = false := decide_eq_false c8
                clear c8
                have H' := Aside0.mk H
                clear H
                go_wp2
                go_meet
                case rel => exact ⟨_, (false), (by first | rfl | (simp; done) | (simp [*]; done)), H', ⟨by have := HK1.out; first | omega | exact Nat.le_refl _⟩, ⟨by (with_reducible repeat (first | apply Kd.R_alloc | apply Kd.R_drewN | apply Kd.R_drew)); exact HO_4.out⟩, ⟨by (with_reducible repeat (first | refine blk_drewN ?_ _ | refine blk_drew ?_ | refine blk_alloc ?_ _)); exact BK101.out⟩, ⟨by repeat (first | (with_reducible first | exact HB.out | apply below_alloc | apply pw_below_drewN | apply below_drew1 | refine below_set ?_ GE101.out) | exact HB.out)⟩⟩
            · rw [if_neg c7] at H
              have c7b0 : decide (48 ≤ (bt a0 x8_1)) = false := decide_eq_false c7
              clear c7
              (first | rw [c7b0] | (simp only [i64_w, i32_w]; rw [c7b0]) | skip)
              have H' := Aside0.mk H
              clear H
              go_wp2
              go_meet
              case rel => exact ⟨_, (false), (by first | rfl | (simp; done) | (simp [*]; done)), H', ⟨by have := HK1.out; first | omega | exact Nat.le_refl _⟩, ⟨by (with_reducible repeat (first | apply Kd.R_alloc | apply Kd.R_drewN | apply Kd.R_drew)); exact HO_4.out⟩, ⟨by (with_reducible repeat (first | refine blk_drewN ?_ _ | refine blk_drew ?_ | refine blk_alloc ?_ _)); exact BK101.out⟩, ⟨by repeat (first | (with_reducible first | exact HB.out | apply below_alloc | apply pw_below_drewN | apply below_drew1 | refine below_set ?_ GE101.out) | exact HB.out)⟩⟩
          case rest =>
            clear HC6
            try clear c1
            try clear p1
            try clear q1
            try clear hx1
            try clear p2
            try clear c3
            try clear c3b0
            try clear c4
            try clear c4b0
            try clear p5
            try clear q5
            try clear hx5
            try clear c7
            try clear c7b0
            try clear c8
            try clear c8b0
            try clear c9
            try clear c9b0
            try clear c9b1
            try clear c10
            try clear c10b0
            try clear c11
            try clear c11b0
            try clear p12
            try clear q12
            try clear hx12
            try clear hcz13_0
            try clear hcz13_1
            try clear hcz13_2
            try clear hfz13_0
            try clear hfz13_1
            try clear hfz13_2
            try clear p12
            try clear p2
            try clear p5
            try clear q12
            try clear q5
            obtain ⟨kq, x35_5, rfl, HA, HJ5, HO_4, BK101, HB⟩ := hcut
            cases kq with
            | zero => exact absurd HA.out (by simp [sloperef3_form.j1])
            | succ kj5 =>
              have H := HA.out
              clear HA
              simp only [sloperef3_form.j1] at H
              by_cases c14 : x35_5 = true
              · subst c14
                have H1 : (if x7_1 = 0 then (if 0 < 100000 then (sloperef3_form.l0 kj5 a0 x4_1 x6_1 (wrap64 (x7_1 + 1)) (wrap64 (x8_1 + 1)) (((bt a0 x8_1) - 48) % 256) x8_1 0) else (sloperef3_form.l0 kj5 a0 x4_1 x6_1 (wrap64 (x7_1 + 1)) (wrap64 (x8_1 + 1)) 0 x8_1 0)) else (if x102000_1 < 100000 then (sloperef3_form.l0 kj5 a0 x4_1 x6_1 (wrap64 (x7_1 + 1)) (wrap64 (x8_1 + 1)) (wrap64 ((wrap64 (10 * x102000_1)) + (((bt a0 x8_1) - 48) % 256))) x102001_1 x102002_1) else (sloperef3_form.l0 kj5 a0 x4_1 x6_1 (wrap64 (x7_1 + 1)) (wrap64 (x8_1 + 1)) x102000_1 x102001_1 x102002_1))) = some (r1, r2) := by rw [if_pos rfl] at H; exact H
                clear H
                have H := H1
                clear H1
                by_cases c15 : x7_1 = 0
                · rw [if_pos c15] at H
                  have c15b0 : (x7_1 == 0) = true := beq_iff_eq.mpr c15
                  have c15b1 : (x7_1 != 0) = false := bne_eq_false_iff_eq.mpr c15
                  clear c15
                  by_cases c16 : 0 < 100000
                  · rw [if_pos c16] at H
                    have c16b0 : decide (0 < 100000) = true := decide_eq_true c16
                    clear c16
                    have H' := Aside0.mk H
                    clear H
                    have hcz17_0 : wc.cell? ⟨gb101, 0, none⟩ = some (.int .i64 x102000_1) := (blk_cell BK101.out 0).trans rfl
                    have hcz17_1 : wc.cell? ⟨gb101, 1, none⟩ = some (.int .i64 x102001_1) := (blk_cell BK101.out 1).trans rfl
                    have hcz17_2 : wc.cell? ⟨gb101, 2, none⟩ = some (.int .u8 x102002_1) := (blk_cell BK101.out 2).trans rfl
                    have hfz17_0 := blk_frozen BK101.out 0
                    have hfz17_1 := blk_frozen BK101.out 1
                    have hfz17_2 := blk_frozen BK101.out 2
                    go_wp2
                    go_roundg kj5
                    case measure => have := HK1.out; have := HJ5.out; omega
                    case rel => exact ⟨(x4_1), (x6_1), (wrap64 (x7_1 + 1)), (wrap64 (x8_1 + 1)), (((bt a0 x8_1) - 48) % 256), (x8_1), (0), (by first | rfl | (simp; done) | (simp [*]; done)), (by first | rfl | (simp; done) | (simp [*]; done)), (by first | rfl | (simp; done) | (simp [*]; done)), H', ⟨by have := HK1.out; have := HJ5.out; omega⟩, ⟨by (with_reducible repeat (first | apply Kd.R_alloc | apply Kd.R_drewN | apply Kd.R_drew)); exact Kd.R_mono (Kd.R_far (p := ⟨gb101, 0, none⟩) (Kd.R_far (p := ⟨gb101, 2, none⟩) (Kd.R_far (p := ⟨gb101, 1, none⟩) (Kd.R_far (p := ⟨gb101, 0, none⟩) (Kd.R_mono HO_4.out (fun k_ hk => (⟨hk, hk⟩ : _ ∧ k_ ≠ gb101))) (fun _ hk => hk.2) (.int .i64 0)) (fun _ hk => hk.2) (.int .i64 x8_1)) (fun _ hk => hk.2) (.int .u8 0)) (fun _ hk => hk.2) (.int .i64 (((bt a0 x8_1) - 48) % 256))) (fun _ hk => hk.1)⟩, ⟨by (with_reducible repeat (first | refine blk_drewN ?_ _ | refine blk_drew ?_ | refine blk_alloc ?_ _)); refine blk_put (cs := #[.int .i64 0, .int .i64 x8_1, .int .u8 0]) ?_ 0 _ rfl; (with_reducible repeat (first | refine blk_drewN ?_ _ | refine blk_drew ?_ | refine blk_alloc ?_ _)); refine blk_put (cs := #[.int .i64 0, .int .i64 x8_1, .int .u8 x102002_1]) ?_ 2 _ rfl; (with_reducible repeat (first | refine blk_drewN ?_ _ | refine blk_drew ?_ | refine blk_alloc ?_ _)); refine blk_put (cs := #[.int .i64 0, .int .i64 x102001_1, .int .u8 x102002_1]) ?_ 1 _ rfl; (with_reducible repeat (first | refine blk_drewN ?_ _ | refine blk_drew ?_ | refine blk_alloc ?_ _)); refine blk_put (cs := #[.int .i64 x102000_1, .int .i64 x102001_1, .int .u8 x102002_1]) ?_ 0 _ rfl; (with_reducible repeat (first | refine blk_drewN ?_ _ | refine blk_drew ?_ | refine blk_alloc ?_ _)); exact BK101.out⟩, ⟨by repeat (first | (with_reducible first | exact HB.out | apply below_alloc | apply pw_below_drewN | apply below_drew1 | refine below_set ?_ GE101.out) | exact HB.out)⟩⟩
                  · exact absurd (by decide : 0 < 100000) c16
                · rw [if_neg c15] at H
                  have c15b0 : (x7_1 == 0) = false := beq_eq_false_iff_ne.mpr c15
                  have c15b1 : (x7_1 != 0) = true := bne_iff_ne.mpr c15
                  by_cases c19 : x102000_1 < 100000
                  · rw [if_pos c19] at H
                    have c19b0 : decide (x102000_1 < 100000) = true := decide_eq_true c19
                    clear c19
                    have H' := Aside0.mk H
                    clear H
                    have hcz20_0 : wc.cell? ⟨gb101, 0, none⟩ = some (.int .i64 x102000_1) := (blk_cell BK101.out 0).trans rfl
                    have hcz20_1 : wc.cell? ⟨gb101, 1, none⟩ = some (.int .i64 x102001_1) := (blk_cell BK101.out 1).trans rfl
                    have hcz20_2 : wc.cell? ⟨gb101, 2, none⟩ = some (.int .u8 x102002_1) := (blk_cell BK101.out 2).trans rfl
                    have hfz20_0 := blk_frozen BK101.out 0
                    have hfz20_1 := blk_frozen BK101.out 1
                    have hfz20_2 := blk_frozen BK101.out 2
                    go_wp2
                    go_roundg kj5
                    case measure => have := HK1.out; have := HJ5.out; omega
                    case rel => exact ⟨(x4_1), (x6_1), (wrap64 (x7_1 + 1)), (wrap64 (x8_1 + 1)), (wrap64 ((wrap64 (10 * x102000_1)) + (((bt a0 x8_1) - 48) % 256))), (x102001_1), (x102002_1), (by first | rfl | (simp; done) | (simp [*]; done)), (by first | rfl | (simp; done) | (simp [*]; done)), (by first | rfl | (simp; done) | (simp [*]; done)), H', ⟨by have := HK1.out; have := HJ5.out; omega⟩, ⟨by (with_reducible repeat (first | apply Kd.R_alloc | apply Kd.R_drewN | apply Kd.R_drew)); exact Kd.R_mono (Kd.R_far (p := ⟨gb101, 0, none⟩) (Kd.R_mono HO_4.out (fun k_ hk => (⟨hk, hk⟩ : _ ∧ k_ ≠ gb101))) (fun _ hk => hk.2) (.int .i64 (wrap64 ((wrap64 (10 * x102000_1)) + (((bt a0 x8_1) - 48) % 256))))) (fun _ hk => hk.1)⟩, ⟨by (with_reducible repeat (first | refine blk_drewN ?_ _ | refine blk_drew ?_ | refine blk_alloc ?_ _)); refine blk_put (cs := #[.int .i64 x102000_1, .int .i64 x102001_1, .int .u8 x102002_1]) ?_ 0 _ rfl; (with_reducible repeat (first | refine blk_drewN ?_ _ | refine blk_drew ?_ | refine blk_alloc ?_ _)); exact BK101.out⟩, ⟨by repeat (first | (with_reducible first | exact HB.out | apply below_alloc | apply pw_below_drewN | apply below_drew1 | refine below_set ?_ GE101.out) | exact HB.out)⟩⟩
                  · rw [if_neg c19] at H
                    have c19b0 : decide (x102000_1 < 100000) = false := decide_eq_false c19
                    clear c19
                    have H' := Aside0.mk H
                    clear H
                    have hcz21_0 : wc.cell? ⟨gb101, 0, none⟩ = some (.int .i64 x102000_1) := (blk_cell BK101.out 0).trans rfl
                    have hcz21_1 : wc.cell? ⟨gb101, 1, none⟩ = some (.int .i64 x102001_1) := (blk_cell BK101.out 1).trans rfl
                    have hcz21_2 : wc.cell? ⟨gb101, 2, none⟩ = some (.int .u8 x102002_1) := (blk_cell BK101.out 2).trans rfl
                    have hfz21_0 := blk_frozen BK101.out 0
                    have hfz21_1 := blk_frozen BK101.out 1
                    have hfz21_2 := blk_frozen BK101.out 2
                    go_wp2
                    go_roundg kj5
                    case measure => have := HK1.out; have := HJ5.out; omega
                    case rel => exact ⟨(x4_1), (x6_1), (wrap64 (x7_1 + 1)), (wrap64 (x8_1 + 1)), (x102000_1), (x102001_1), (x102002_1), (by first | rfl | (simp; done) | (simp [*]; done)), (by first | rfl | (simp; done) | (simp [*]; done)), (by first | rfl | (simp; done) | (simp [*]; done)), H', ⟨by have := HK1.out; have := HJ5.out; omega⟩, ⟨by (with_reducible repeat (first | apply Kd.R_alloc | apply Kd.R_drewN | apply Kd.R_drew)); exact HO_4.out⟩, ⟨by (with_reducible repeat (first | refine blk_drewN ?_ _ | refine blk_drew ?_ | refine blk_alloc ?_ _)); exact BK101.out⟩, ⟨by repeat (first | (with_reducible first | exact HB.out | apply below_alloc | apply pw_below_drewN | apply below_drew1 | refine below_set ?_ GE101.out) | exact HB.out)⟩⟩
              · replace c14 := Bool.eq_false_iff.mpr c14
                subst c14
                have H1 : (if x7_1 = 0 then (sloperef3_form.j2 kj5 a0 x4_1 x8_1 (bt a0 x8_1) true x102000_1 x102001_1 x102002_1) else ((sloperef3_after.f x6_1 (bt a0 x8_1)).bind fun t102 => (sloperef3_form.j2 kj5 a0 x4_1 x8_1 (bt a0 x8_1) (!t102) x102000_1 x102001_1 x102002_1))) = some (r1, r2) := by rw [if_neg (show ¬ (false = true) by decide)] at H; exact H
                clear H
                have H := H1
                clear H1
                have HC22 := Aside0.mk H
                clear H
                go_upto_region 15 with (fail)
                go_cut [60] (fun v60 wc => ∃ (kq : Nat) (x60_21 : Bool), v60 = .bool x60_21 ∧ Aside0 (sloperef3_form.j2 kq a0 x4_1 x8_1 (bt a0 x8_1) x60_21 x102000_1 x102001_1 x102002_1 = some (r1, r2)) ∧ Aside0 (kq ≤ kj5) ∧ Aside0 (Kd.R k100 100 wc w.heap.size (fun k_ => k_ ≠ gb101) u4 x4_1) ∧ Aside0 (wc.heap[gb101]? = some (.cells #[.int .i64 x102000_1, .int .i64 x102001_1, .int .u8 x102002_1] 100 (0, 0))) ∧ Aside0 (Below w.heap.size w wc))
                case first =>
                  have H := HC22.out
                  clear HC22
                  by_cases c23 : x7_1 = 0
                  · rw [if_pos c23] at H
                    have c23b0 : (x7_1 == 0) = true := beq_iff_eq.mpr c23
                    have c23b1 : (x7_1 != 0) = false := bne_eq_false_iff_eq.mpr c23
                    clear c23
                    (first | rw [c23b0] | (simp only [i64_w, i32_w]; rw [c23b0]) | skip)
                    have H' := Aside0.mk H
                    clear H
                    go_wp2
                    go_meet
                    case rel => exact ⟨_, (true), (by first | rfl | (simp; done) | (simp [*]; done)), H', ⟨by have := HK1.out; have := HJ5.out; first | omega | exact Nat.le_refl _⟩, ⟨by (with_reducible repeat (first | apply Kd.R_alloc | apply Kd.R_drewN | apply Kd.R_drew)); exact HO_4.out⟩, ⟨by (with_reducible repeat (first | refine blk_drewN ?_ _ | refine blk_drew ?_ | refine blk_alloc ?_ _)); exact BK101.out⟩, ⟨by repeat (first | (with_reducible first | exact HB.out | apply below_alloc | apply pw_below_drewN | apply below_drew1 | refine below_set ?_ GE101.out) | exact HB.out)⟩⟩
                  · rw [if_neg c23] at H
                    have c23b0 : (x7_1 == 0) = false := beq_eq_false_iff_ne.mpr c23
                    have c23b1 : (x7_1 != 0) = true := bne_iff_ne.mpr c23
                    (first | rw [c23b0] | (simp only [i64_w, i32_w]; rw [c23b0]) | skip)
                    replace H := Option.bind_eq_some_iff.mp H
                    obtain ⟨t102, A240, H⟩ := H
                    replace H : (sloperef3_form.j2 kj5 a0 x4_1 x8_1 (bt a0 x8_1) (!t102) x102000_1 x102001_1 x102002_1) = some (r1, r2) := H
                    have A24 := Aside0.mk A240
                    clear A240
                    have H' := Aside0.mk H
                    clear H
                    go_wp2_with (first | (go_at_call 84; (with_reducible refine (sloperef3_after.calls x6_1 (bt a0 x8_1) t102 _ A24.out).mono ?_); rintro e w' ⟨rfl, ⟨nd, rfl⟩⟩))
                    go_meet
                    case rel => exact ⟨_, (!t102), (by first | rfl | (simp; done) | (simp [*]; done)), H', ⟨by have := HK1.out; have := HJ5.out; first | omega | exact Nat.le_refl _⟩, ⟨by (with_reducible repeat (first | apply Kd.R_alloc | apply Kd.R_drewN | apply Kd.R_drew)); exact HO_4.out⟩, ⟨by (with_reducible repeat (first | refine blk_drewN ?_ _ | refine blk_drew ?_ | refine blk_alloc ?_ _)); exact BK101.out⟩, ⟨by repeat (first | (with_reducible first | exact HB.out | apply below_alloc | apply pw_below_drewN | apply below_drew1 | refine below_set ?_ GE101.out) | exact HB.out)⟩⟩
                case rest =>
                  clear HC22
                  try clear c1
                  try clear p1
                  try clear q1
                  try clear hx1
                  try clear c2
                  try clear p2
                  try clear c3
                  try clear c3b0
                  try clear c4
                  try clear c4b0
                  try clear p5
                  try clear q5
                  try clear hx5
                  try clear p6
                  try clear c7
                  try clear c7b0
                  try clear c8
                  try clear c8b0
                  try clear c9
                  try clear c9b0
                  try clear c9b1
                  try clear c10
                  try clear c10b0
                  try clear c11
                  try clear c11b0
                  try clear p12
                  try clear q12
                  try clear hx12
                  try clear c14
                  try clear c15
                  try clear c15b0
                  try clear c15b1
                  try clear c16
                  try clear c16b0
                  try clear c19
                  try clear c19b0
                  try clear c23
                  try clear c23b0
                  try clear c23b1
                  try clear hcz13_0
                  try clear hcz13_1
                  try clear hcz13_2
                  try clear hcz17_0
                  try clear hcz17_1
                  try clear hcz17_2
                  try clear hcz18_0
                  try clear hcz18_1
                  try clear hcz18_2
                  try clear hcz20_0
                  try clear hcz20_1
                  try clear hcz20_2
                  try clear hcz21_0
                  try clear hcz21_1
                  try clear hcz21_2
                  try clear hfz13_0
                  try clear hfz13_1
                  try clear hfz13_2
                  try clear hfz17_0
                  try clear hfz17_1
                  try clear hfz17_2
                  try clear hfz18_0
                  try clear hfz18_1
                  try clear hfz18_2
                  try clear hfz20_0
                  try clear hfz20_1
                  try clear hfz20_2
                  try clear hfz21_0
                  try clear hfz21_1
                  try clear hfz21_2
                  try clear p1
                  try clear p12
                  try clear p2
                  try clear p5
                  try clear q1
                  try clear q12
                  try clear q5
                  obtain ⟨kq, x60_21, rfl, HA, HJ21, HO_4, BK101, HB⟩ := hcut
                  cases kq with
                  | zero => exact absurd HA.out (by simp [sloperef3_form.j2])
                  | succ kj21 =>
                    have H := HA.out
                    clear HA
                    simp only [sloperef3_form.j2] at H
                    by_cases c25 : x60_21 = true
                    · subst c25
                      have H1 : (some (x4_1, x8_1)) = some (r1, r2) := by rw [if_pos rfl] at H; exact H
                      clear H
                      have H := H1
                      clear H1
                      simp only [Option.some.injEq, Prod.mk.injEq] at H
                      obtain ⟨rfl, rfl⟩ := H
                      go_wp2
                      go_ret2
                      exact ⟨_, by first | rfl | (simp [errW_none, errW_some] <;> rfl) | (simp [*, errW_none, errW_some] <;> rfl), by (with_reducible repeat (first | apply Kd.R_alloc | apply Kd.R_drewN | apply Kd.R_drew)); exact Kd.R_mono HO_4.out (fun _ hk => trivial), by repeat (first | (with_reducible first | exact HB.out | apply below_alloc | apply pw_below_drewN | apply below_drew1 | refine below_set ?_ GE101.out) | exact HB.out)⟩
                    · replace c25 := Bool.eq_false_iff.mpr c25
                      subst c25
                      have H1 : (if x4_1.length < 5864062014805 then ((some (x4_1 ++ [(⟨x102000_1, x102001_1, (bt a0 x8_1)⟩ : S100)] : List (S100))).bind fun y103 => (if (bt a0 x8_1) = 45 then (sloperef3_form.l0 kj21 a0 y103 2 0 (wrap64 (x8_1 + 1)) x102000_1 x102001_1 (bt a0 x8_1)) else (sloperef3_form.l0 kj21 a0 y103 1 0 (wrap64 (x8_1 + 1)) x102000_1 x102001_1 (bt a0 x8_1)))) else (none)) = some (r1, r2) := by rw [if_neg (show ¬ (false = true) by decide)] at H; exact H
                      clear H
                      have H := H1
                      clear H1
                      by_cases c26 : x4_1.length < 5864062014805
                      · rw [if_pos c26] at H
                        have LMc26 := Aside0.mk c26
                        clear c26
                        obtain ⟨y103, hy103⟩ : ∃ y_ : List (S100), y_ = (x4_1 ++ [(⟨x102000_1, x102001_1, (bt a0 x8_1)⟩ : S100)]) := ⟨_, rfl⟩
                        replace H : (if (bt a0 x8_1) = 45 then (sloperef3_form.l0 kj21 a0 y103 2 0 (wrap64 (x8_1 + 1)) x102000_1 x102001_1 (bt a0 x8_1)) else (sloperef3_form.l0 kj21 a0 y103 1 0 (wrap64 (x8_1 + 1)) x102000_1 x102001_1 (bt a0 x8_1))) = some (r1, r2) := by first | (rw [hy103]; with_reducible exact H) | (have H2_ := (Option.bind_some _ _).symm.trans H; rw [hy103]; with_reducible exact H2_) | (have H2_ := (Option.bind_some _ _).symm.trans H; with_reducible exact H2_) | with_reducible exact H | (rw [hy103]; exact H) | exact H
                        have Ny103 := Aside0.mk hy103
                        clear hy103
                        by_cases c27 : (bt a0 x8_1) = 45
                        · rw [if_pos c27] at H
                          have c27b0 : ((bt a0 x8_1) == 45) = true := beq_iff_eq.mpr c27
                          have c27b1 : ((bt a0 x8_1) != 45) = false := bne_eq_false_iff_eq.mpr c27
                          clear c27
                          have H' := Aside0.mk H
                          clear H
                          have hcz28_0 : wc.cell? ⟨gb101, 0, none⟩ = some (.int .i64 x102000_1) := (blk_cell BK101.out 0).trans rfl
                          have hcz28_1 : wc.cell? ⟨gb101, 1, none⟩ = some (.int .i64 x102001_1) := (blk_cell BK101.out 1).trans rfl
                          have hcz28_2 : wc.cell? ⟨gb101, 2, none⟩ = some (.int .u8 x102002_1) := (blk_cell BK101.out 2).trans rfl
                          have hfz28_0 := blk_frozen BK101.out 0
                          have hfz28_1 := blk_frozen BK101.out 1
                          have hfz28_2 := blk_frozen BK101.out 2
                          go_wp2_with (first | ((with_reducible refine gate_builtin (b := .append) (xs := #[.tmp 65, .tmp 67]) rfl ?_); (try (refine gate_guard (by rfl) ?_; dsimp only)); at_builtin; refine Kd.R_append k100 (w0 := w) w.heap.size rfl (.tmp 65) (.tmp 67) 96 100 (.agg #[(.int .i64 0), (.int .i64 0), (.int .u8 0)]) 24 rfl Try.underlying96 info100 rfl (by decide) (by omega) u4 x4_1 (⟨x102000_1, x102001_1, (bt a0 x8_1)⟩ : S100) [.int .i64 x102000_1, .int .i64 x102001_1, .int .u8 (bt a0 x8_1)] (fun k_ => k_ ≠ gb101) (fun _ => False) rfl (by first | (go_simp; done) | (go_simp; rfl)) ?aP (fun _ hk => hk.elim) ?aF ?aO ?aB ?aS ?aL ?_; (case aP => exact k100_mkM _ _ _ (⟨x102000_1, x102001_1, (bt a0 x8_1)⟩ : S100)); (case aB => exact (by repeat (first | (with_reducible first | exact HB.out | apply below_alloc | apply pw_below_drewN | apply below_drew1 | refine below_set ?_ GE101.out) | exact HB.out))); (case aF => exact (fun k_ hk => Kd.freshB (g := gb101) (o := .cells #[.int .i64 x102000_1, .int .i64 x102001_1, .int .u8 (bt a0 x8_1)] 100 (0, 0)) (by (with_reducible repeat (first | refine blk_drewN ?_ _ | refine blk_drew ?_ | refine blk_alloc ?_ _)); refine blk_put (cs := #[.int .i64 x102000_1, .int .i64 x102001_1, .int .u8 x102002_1]) ?_ 2 _ rfl; (with_reducible repeat (first | refine blk_drewN ?_ _ | refine blk_drew ?_ | refine blk_alloc ?_ _)); exact BK101.out) k_ hk)); (case aO => exact (by (with_reducible repeat (first | apply Kd.R_alloc | apply Kd.R_drewN | apply Kd.R_drew)); exact Kd.R_mono (Kd.R_far (p := ⟨gb101, 2, none⟩) (Kd.R_mono HO_4.out (fun k_ hk => (⟨hk, hk⟩ : _ ∧ k_ ≠ gb101))) (fun _ hk => hk.2) (.int .u8 (bt a0 x8_1))) (fun _ hk => hk.1))); (case aS => exact (below_size (by repeat (first | (with_reducible first | exact HB.out | apply below_alloc | apply pw_below_drewN | apply below_drew1 | refine below_set ?_ GE101.out) | exact HB.out)))); (case aL => have := LMc26.out; omega); intro v104 w29 ho hb hg hat; rw [← Ny103.out] at ho; have n0_ := Aside0.mk (blk_grown (g := gb101) (o := .cells #[.int .i64 x102000_1, .int .i64 x102001_1, .int .u8 (bt a0 x8_1)] 100 (0, 0)) (by (with_reducible repeat (first | refine blk_drewN ?_ _ | refine blk_drew ?_ | refine blk_alloc ?_ _)); refine blk_put (cs := #[.int .i64 x102000_1, .int .i64 x102001_1, .int .u8 x102002_1]) ?_ 2 _ rfl; (with_reducible repeat (first | refine blk_drewN ?_ _ | refine blk_drew ?_ | refine blk_alloc ?_ _)); exact BK101.out) hg (Kd.R_away HO_4.out (fun _ hk => hk))); have n1_ := Aside0.mk (hb); have n2_ := Aside0.mk (ho); clear BK101; clear HB; clear HO_4; have BK101 := n0_; have HB := n1_; have HO105 := n2_; clear n0_ n1_ n2_; clear ho hb hg hat))
                          go_roundg kj21
                          case measure => have := HK1.out; have := HJ5.out; have := HJ21.out; omega
                          case rel => exact ⟨(y103), (2), (0), (wrap64 (x8_1 + 1)), (x102000_1), (x102001_1), ((bt a0 x8_1)), (by first | rfl | (simp; done) | (simp [*]; done)), (by first | rfl | (simp; done) | (simp [*]; done)), (by first | rfl | (simp; done) | (simp [*]; done)), H', ⟨by have := HK1.out; have := HJ5.out; have := HJ21.out; omega⟩, ⟨by (with_reducible repeat (first | apply Kd.R_alloc | apply Kd.R_drewN | apply Kd.R_drew)); exact HO105.out⟩, ⟨by (with_reducible repeat (first | refine blk_drewN ?_ _ | refine blk_drew ?_ | refine blk_alloc ?_ _)); exact BK101.out⟩, ⟨by repeat (first | (with_reducible first | exact HB.out | apply below_alloc | apply pw_below_drewN | apply below_drew1 | refine below_set ?_ GE101.out) | exact HB.out)⟩⟩
                        · rw [if_neg c27] at H
                          have c27b0 : ((bt a0 x8_1) == 45) = false := beq_eq_false_iff_ne.mpr c27
                          have c27b1 : ((bt a0 x8_1) != 45) = true := bne_iff_ne.mpr c27
                          have H' := Aside0.mk H
                          clear H
                          have hcz30_0 : wc.cell? ⟨gb101, 0, none⟩ = some (.int .i64 x102000_1) := (blk_cell BK101.out 0).trans rfl
                          have hcz30_1 : wc.cell? ⟨gb101, 1, none⟩ = some (.int .i64 x102001_1) := (blk_cell BK101.out 1).trans rfl
                          have hcz30_2 : wc.cell? ⟨gb101, 2, none⟩ = some (.int .u8 x102002_1) := (blk_cell BK101.out 2).trans rfl
                          have hfz30_0 := blk_frozen BK101.out 0
                          have hfz30_1 := blk_frozen BK101.out 1
                          have hfz30_2 := blk_frozen BK101.out 2
                          go_wp2_with (first | ((with_reducible refine gate_builtin (b := .append) (xs := #[.tmp 65, .tmp 67]) rfl ?_); (try (refine gate_guard (by rfl) ?_; dsimp only)); at_builtin; refine Kd.R_append k100 (w0 := w) w.heap.size rfl (.tmp 65) (.tmp 67) 96 100 (.agg #[(.int .i64 0), (.int .i64 0), (.int .u8 0)]) 24 rfl Try.underlying96 info100 rfl (by decide) (by omega) u4 x4_1 (⟨x102000_1, x102001_1, (bt a0 x8_1)⟩ : S100) [.int .i64 x102000_1, .int .i64 x102001_1, .int .u8 (bt a0 x8_1)] (fun k_ => k_ ≠ gb101) (fun _ => False) rfl (by first | (go_simp; done) | (go_simp; rfl)) ?aP (fun _ hk => hk.elim) ?aF ?aO ?aB ?aS ?aL ?_; (case aP => exact k100_mkM _ _ _ (⟨x102000_1, x102001_1, (bt a0 x8_1)⟩ : S100)); (case aB => exact (by repeat (first | (with_reducible first | exact HB.out | apply below_alloc | apply pw_below_drewN | apply below_drew1 | refine below_set ?_ GE101.out) | exact HB.out))); (case aF => exact (fun k_ hk => Kd.freshB (g := gb101) (o := .cells #[.int .i64 x102000_1, .int .i64 x102001_1, .int .u8 (bt a0 x8_1)] 100 (0, 0)) (by (with_reducible repeat (first | refine blk_drewN ?_ _ | refine blk_drew ?_ | refine blk_alloc ?_ _)); refine blk_put (cs := #[.int .i64 x102000_1, .int .i64 x102001_1, .int .u8 x102002_1]) ?_ 2 _ rfl; (with_reducible repeat (first | refine blk_drewN ?_ _ | refine blk_drew ?_ | refine blk_alloc ?_ _)); exact BK101.out) k_ hk)); (case aO => exact (by (with_reducible repeat (first | apply Kd.R_alloc | apply Kd.R_drewN | apply Kd.R_drew)); exact Kd.R_mono (Kd.R_far (p := ⟨gb101, 2, none⟩) (Kd.R_mono HO_4.out (fun k_ hk => (⟨hk, hk⟩ : _ ∧ k_ ≠ gb101))) (fun _ hk => hk.2) (.int .u8 (bt a0 x8_1))) (fun _ hk => hk.1))); (case aS => exact (below_size (by repeat (first | (with_reducible first | exact HB.out | apply below_alloc | apply pw_below_drewN | apply below_drew1 | refine below_set ?_ GE101.out) | exact HB.out)))); (case aL => have := LMc26.out; omega); intro v104 w31 ho hb hg hat; rw [← Ny103.out] at ho; have n0_ := Aside0.mk (blk_grown (g := gb101) (o := .cells #[.int .i64 x102000_1, .int .i64 x102001_1, .int .u8 (bt a0 x8_1)] 100 (0, 0)) (by (with_reducible repeat (first | refine blk_drewN ?_ _ | refine blk_drew ?_ | refine blk_alloc ?_ _)); refine blk_put (cs := #[.int .i64 x102000_1, .int .i64 x102001_1, .int .u8 x102002_1]) ?_ 2 _ rfl; (with_reducible repeat (first | refine blk_drewN ?_ _ | refine blk_drew ?_ | refine blk_alloc ?_ _)); exact BK101.out) hg (Kd.R_away HO_4.out (fun _ hk => hk))); have n1_ := Aside0.mk (hb); have n2_ := Aside0.mk (ho); clear BK101; clear HB; clear HO_4; have BK101 := n0_; have HB := n1_; have HO105 := n2_; clear n0_ n1_ n2_; clear ho hb hg hat))
                          go_roundg kj21
                          case measure => have := HK1.out; have := HJ5.out; have := HJ21.out; omega
                          case rel => exact ⟨(y103), (1), (0), (wrap64 (x8_1 + 1)), (x102000_1), (x102001_1), ((bt a0 x8_1)), (by first | rfl | (simp; done) | (simp [*]; done)), (by first | rfl | (simp; done) | (simp [*]; done)), (by first | rfl | (simp; done) | (simp [*]; done)), H', ⟨by have := HK1.out; have := HJ5.out; have := HJ21.out; omega⟩, ⟨by (with_reducible repeat (first | apply Kd.R_alloc | apply Kd.R_drewN | apply Kd.R_drew)); exact HO105.out⟩, ⟨by (with_reducible repeat (first | refine blk_drewN ?_ _ | refine blk_drew ?_ | refine blk_alloc ?_ _)); exact BK101.out⟩, ⟨by repeat (first | (with_reducible first | exact HB.out | apply below_alloc | apply pw_below_drewN | apply below_drew1 | refine below_set ?_ GE101.out) | exact HB.out)⟩⟩
                      · rw [if_neg c26] at H
                        exact absurd H (by simp)
        · rw [if_neg c4] at H
          exact absurd H (by simp)
      · rw [if_neg c3] at H
        have c3b0 : decide (x8_1 < (a0.size : Int)) = false := decide_eq_false c3
        clear c3
        have HC32 := Aside0.mk H
        clear H
        go_upto_region 23 with (fail)
        go_cut [89] (fun v89 wc => ∃ (kq : Nat) (x89_31 : Bool), v89 = .bool x89_31 ∧ Aside0 (sloperef3_form.j3 kq a0 x4_1 x7_1 x89_31 x102000_1 x102001_1 x102002_1 = some (r1, r2)) ∧ Aside0 (kq ≤ k1) ∧ Aside0 (Kd.R k100 100 wc w.heap.size (fun k_ => k_ ≠ gb101) u4 x4_1) ∧ Aside0 (wc.heap[gb101]? = some (.cells #[.int .i64 x102000_1, .int .i64 x102001_1, .int .u8 x102002_1] 100 (0, 0))) ∧ Aside0 (Below w.heap.size w wc))
        case first =>
          have H := HC32.out
          clear HC32
          by_cases c33 : x7_1 = 0
          · rw [if_pos c33] at H
            have c33b0 : (x7_1 == 0) = true := beq_iff_eq.mpr c33
            have c33b1 : (x7_1 != 0) = false := bne_eq_false_iff_eq.mpr c33
            clear c33
            (first | rw [c33b0] | (simp only [i64_w, i32_w]; rw [c33b0]) | skip)
            by_cases c34 : (x4_1.length : Int) = 1
            · rw [if_pos c34] at H
              have c34b0 : ((x4_1.length : Int) == 1) = true := beq_iff_eq.mpr c34
              have c34b1 : ((x4_1.length : Int) != 1) = false := bne_eq_false_iff_eq.mpr c34
              clear c34
              by_cases c35 : x6_1 = 1
              · rw [if_pos c35] at H
                have c35b0 : (x6_1 == 1) = true := beq_iff_eq.mpr c35
                have c35b1 : (x6_1 != 1) = false := bne_eq_false_iff_eq.mpr c35
                clear c35
                by_cases c36 : x7_1 > 0
                · rw [if_pos c36] at H
                  have c36b0 : decide (0 < x7_1) = true := decide_eq_true c36
                  clear c36
                  have H' := Aside0.mk H
                  clear H
                  obtain ⟨Ao37, co37, eo37⟩ := Kd.R_slice HO_4.out
                  subst eo37
                  go_wp2
                  go_meet
                  case rel => exact ⟨_, ((x6_1 == 0)), (by first | rfl | (simp; done) | (simp [*]; done)), H', ⟨by have := HK1.out; first | omega | exact Nat.le_refl _⟩, ⟨by (with_reducible repeat (first | apply Kd.R_alloc | apply Kd.R_drewN | apply Kd.R_drew)); exact HO_4.out⟩, ⟨by (with_reducible repeat (first | refine blk_drewN ?_ _ | refine blk_drew ?_ | refine blk_alloc ?_ _)); exact BK101.out⟩, ⟨by repeat (first | (with_reducible first | exact HB.out | apply below_alloc | apply pw_below_drewN | apply below_drew1 | refine below_set ?_ GE101.out) | exact HB.out)⟩⟩
                · rw [if_neg c36] at H
                  have c36b0 : decide (0 < x7_1) = false := decide_eq_false c36
                  clear c36
                  have H' := Aside0.mk H
                  clear H
                  obtain ⟨Ao38, co38, eo38⟩ := Kd.R_slice HO_4.out
                  subst eo38
                  go_wp2
                  go_meet
                  case rel => exact ⟨_, (false), (by first | rfl | (simp; done) | (simp [*]; done)), H', ⟨by have := HK1.out; first | omega | exact Nat.le_refl _⟩, ⟨by (with_reducible repeat (first | apply Kd.R_alloc | apply Kd.R_drewN | apply Kd.R_drew)); exact HO_4.out⟩, ⟨by (with_reducible repeat (first | refine blk_drewN ?_ _ | refine blk_drew ?_ | refine blk_alloc ?_ _)); exact BK101.out⟩, ⟨by repeat (first | (with_reducible first | exact HB.out | apply below_alloc | apply pw_below_drewN | apply below_drew1 | refine below_set ?_ GE101.out) | exact HB.out)⟩⟩
              · rw [if_neg c35] at H
                have c35b0 : (x6_1 == 1) = false := beq_eq_false_iff_ne.mpr c35
                have c35b1 : (x6_1 != 1) = true := bne_iff_ne.mpr c35
                have H' := Aside0.mk H
                clear H
                obtain ⟨Ao39, co39, eo39⟩ := Kd.R_slice HO_4.out
                subst eo39
                go_wp2
                go_meet
                case rel => exact ⟨_, (true), (by first | rfl | (simp; done) | (simp [*]; done)), H', ⟨by have := HK1.out; first | omega | exact Nat.le_refl _⟩, ⟨by (with_reducible repeat (first | apply Kd.R_alloc | apply Kd.R_drewN | apply Kd.R_drew)); exact HO_4.out⟩, ⟨by (with_reducible repeat (first | refine blk_drewN ?_ _ | refine blk_drew ?_ | refine blk_alloc ?_ _)); exact BK101.out⟩, ⟨by repeat (first | (with_reducible first | exact HB.out | apply below_alloc | apply pw_below_drewN | apply below_drew1 | refine below_set ?_ GE101.out) | exact HB.out)⟩⟩
            · rw [if_neg c34] at H
              have c34b0 : ((x4_1.length : Int) == 1) = false := beq_eq_false_iff_ne.mpr c34
              have c34b1 : ((x4_1.length : Int) != 1) = true := bne_iff_ne.mpr c34
              have H' := Aside0.mk H
              clear H
              obtain ⟨Ao40, co40, eo40⟩ := Kd.R_slice HO_4.out
              subst eo40
              go_wp2
              go_meet
              case rel => exact ⟨_, (true), (by first | rfl | (simp; done) | (simp [*]; done)), H', ⟨by have := HK1.out; first | omega | exact Nat.le_refl _⟩, ⟨by (with_reducible repeat (first | apply Kd.R_alloc | apply Kd.R_drewN | apply Kd.R_drew)); exact HO_4.out⟩, ⟨by (with_reducible repeat (first | refine blk_drewN ?_ _ | refine blk_drew ?_ | refine blk_alloc ?_ _)); exact BK101.out⟩, ⟨by repeat (first | (with_reducible first | exact HB.out | apply below_alloc | apply pw_below_drewN | apply below_drew1 | refine below_set ?_ GE101.out) | exact HB.out)⟩⟩
          · rw [if_neg c33] at H
            have c33b0 : (x7_1 == 0) = false := beq_eq_false_iff_ne.mpr c33
            have c33b1 : (x7_1 != 0) = true := bne_iff_ne.mpr c33
            (first | rw [c33b0] | (simp only [i64_w, i32_w]; rw [c33b0]) | skip)
            by_cases c41 : x7_1 > 0
            · rw [if_pos c41] at H
              have c41b0 : decide (0 < x7_1) = true := decide_eq_true c41
              clear c41
              have H' := Aside0.mk H
              clear H
              go_wp2
              go_meet
              case rel => exact ⟨_, ((x6_1 == 0)), (by first | rfl | (simp; done) | (simp [*]; done)), H', ⟨by have := HK1.out; first | omega | exact Nat.le_refl _⟩, ⟨by (with_reducible repeat (first | apply Kd.R_alloc | apply Kd.R_drewN | apply Kd.R_drew)); exact HO_4.out⟩, ⟨by (with_reducible repeat (first | refine blk_drewN ?_ _ | refine blk_drew ?_ | refine blk_alloc ?_ _)); exact BK101.out⟩, ⟨by repeat (first | (with_reducible first | exact HB.out | apply below_alloc | apply pw_below_drewN | apply below_drew1 | refine below_set ?_ GE101.out) | exact HB.out)⟩⟩
            · rw [if_neg c41] at H
              have c41b0 : decide (0 < x7_1) = false := decide_eq_false c41
              clear c41
              have H' := Aside0.mk H
              clear H
              go_wp2
              go_meet
              case rel => exact ⟨_, (false), (by first | rfl | (simp; done) | (simp [*]; done)), H', ⟨by have := HK1.out; first | omega | exact Nat.le_refl _⟩, ⟨by (with_reducible repeat (first | apply Kd.R_alloc | apply Kd.R_drewN | apply Kd.R_drew)); exact HO_4.out⟩, ⟨by (with_reducible repeat (first | refine blk_drewN ?_ _ | refine blk_drew ?_ | refine blk_alloc ?_ _)); exact BK101.out⟩, ⟨by repeat (first | (with_reducible first | exact HB.out | apply below_alloc | apply pw_below_drewN | apply below_drew1 | refine below_set ?_ GE101.out) | exact HB.out)⟩⟩
        case rest =>
          clear HC32
          try clear c1
          try clear p1
          try clear q1
          try clear hx1
          try clear c2
          try clear p2
          try clear c3
          try clear c3b0
          try clear c4
          try clear c4b0
          try clear p5
          try clear q5
          try clear hx5
          try clear p6
          try clear c7
          try clear c7b0
          try clear c8
          try clear c8b0
          try clear c9
          try clear c9b0
          try clear c9b1
          try clear c10
          try clear c10b0
          try clear c11
          try clear c11b0
          try clear p12
          try clear q12
          try clear hx12
          try clear c14
          try clear c15
          try clear c15b0
          try clear c15b1
          try clear c16
          try clear c16b0
          try clear c19
          try clear c19b0
          try clear c23
          try clear c23b0
          try clear c23b1
          try clear c25
          try clear c26
          try clear c27
          try clear c27b0
          try clear c27b1
          try clear c33
          try clear c33b0
          try clear c33b1
          try clear c34
          try clear c34b0
          try clear c34b1
          try clear c35
          try clear c35b0
          try clear c35b1
          try clear c36
          try clear c36b0
          try clear c41
          try clear c41b0
          try clear hcz13_0
          try clear hcz13_1
          try clear hcz13_2
          try clear hcz17_0
          try clear hcz17_1
          try clear hcz17_2
          try clear hcz18_0
          try clear hcz18_1
          try clear hcz18_2
          try clear hcz20_0
          try clear hcz20_1
          try clear hcz20_2
          try clear hcz21_0
          try clear hcz21_1
          try clear hcz21_2
          try clear hcz28_0
          try clear hcz28_1
          try clear hcz28_2
          try clear hcz30_0
          try clear hcz30_1
          try clear hcz30_2
          try clear hfz13_0
          try clear hfz13_1
          try clear hfz13_2
          try clear hfz17_0
          try clear hfz17_1
          try clear hfz17_2
          try clear hfz18_0
          try clear hfz18_1
          try clear hfz18_2
          try clear hfz20_0
          try clear hfz20_1
          try clear hfz20_2
          try clear hfz21_0
          try clear hfz21_1
          try clear hfz21_2
          try clear hfz28_0
          try clear hfz28_1
          try clear hfz28_2
          try clear hfz30_0
          try clear hfz30_1
          try clear hfz30_2
          try clear p1
          try clear p12
          try clear p2
          try clear p5
          try clear p6
          try clear q1
          try clear q12
          try clear q5
          obtain ⟨kq, x89_31, rfl, HA, HJ31, HO_4, BK101, HB⟩ := hcut
          cases kq with
          | zero => exact absurd HA.out (by simp [sloperef3_form.j3])
          | succ kj31 =>
            have H := HA.out
            clear HA
            simp only [sloperef3_form.j3] at H
            by_cases c42 : x89_31 = true
            · subst c42
              have H1 : (some (x4_1, (a0.size : Int))) = some (r1, r2) := by rw [if_pos rfl] at H; exact H
              clear H
              have H := H1
              clear H1
              simp only [Option.some.injEq, Prod.mk.injEq] at H
              obtain ⟨rfl, rfl⟩ := H
              go_wp2
              go_ret2
              exact ⟨_, by first | rfl | (simp [errW_none, errW_some] <;> rfl) | (simp [*, errW_none, errW_some] <;> rfl), by (with_reducible repeat (first | apply Kd.R_alloc | apply Kd.R_drewN | apply Kd.R_drew)); exact Kd.R_mono HO_4.out (fun _ hk => trivial), by repeat (first | (with_reducible first | exact HB.out | apply below_alloc | apply pw_below_drewN | apply below_drew1 | refine below_set ?_ GE101.out) | exact HB.out)⟩
            · replace c42 := Bool.eq_false_iff.mpr c42
              subst c42
              have H1 : (if x7_1 > 0 then (if x4_1.length < 5864062014805 then (some ((x4_1 ++ [(⟨x102000_1, x102001_1, x102002_1⟩ : S100)]), (-1))) else (none)) else (some (x4_1, (-1)))) = some (r1, r2) := by rw [if_neg (show ¬ (false = true) by decide)] at H; exact H
              clear H
              have H := H1
              clear H1
              by_cases c43 : x7_1 > 0
              · rw [if_pos c43] at H
                have c43b0 : decide (0 < x7_1) = true := decide_eq_true c43
                clear c43
                by_cases c44 : x4_1.length < 5864062014805
                · rw [if_pos c44] at H
                  have LMc44 := Aside0.mk c44
                  clear c44
                  obtain ⟨y106, hy106⟩ : ∃ y_ : List (S100), y_ = (x4_1 ++ [(⟨x102000_1, x102001_1, x102002_1⟩ : S100)]) := ⟨_, rfl⟩
                  replace H : (some (y106, (-1))) = some (r1, r2) := by first | (rw [hy106]; with_reducible exact H) | (have H2_ := (Option.bind_some _ _).symm.trans H; rw [hy106]; with_reducible exact H2_) | (have H2_ := (Option.bind_some _ _).symm.trans H; with_reducible exact H2_) | with_reducible exact H | (rw [hy106]; exact H) | exact H
                  have Ny106 := Aside0.mk hy106
                  clear hy106
                  simp only [Option.some.injEq, Prod.mk.injEq] at H
                  obtain ⟨rfl, rfl⟩ := H
                  have hcz45_0 : wc.cell? ⟨gb101, 0, none⟩ = some (.int .i64 x102000_1) := (blk_cell BK101.out 0).trans rfl
                  have hcz45_1 : wc.cell? ⟨gb101, 1, none⟩ = some (.int .i64 x102001_1) := (blk_cell BK101.out 1).trans rfl
                  have hcz45_2 : wc.cell? ⟨gb101, 2, none⟩ = some (.int .u8 x102002_1) := (blk_cell BK101.out 2).trans rfl
                  have hfz45_0 := blk_frozen BK101.out 0
                  have hfz45_1 := blk_frozen BK101.out 1
                  have hfz45_2 := blk_frozen BK101.out 2
                  go_wp2_with (first | ((with_reducible refine gate_builtin (b := .append) (xs := #[.tmp 95, .tmp 97]) rfl ?_); (try (refine gate_guard (by rfl) ?_; dsimp only)); at_builtin; refine Kd.R_append k100 (w0 := w) w.heap.size rfl (.tmp 95) (.tmp 97) 96 100 (.agg #[(.int .i64 0), (.int .i64 0), (.int .u8 0)]) 24 rfl Try.underlying96 info100 rfl (by decide) (by omega) u4 x4_1 (⟨x102000_1, x102001_1, x102002_1⟩ : S100) [.int .i64 x102000_1, .int .i64 x102001_1, .int .u8 x102002_1] (fun k_ => k_ ≠ gb101) (fun _ => False) rfl rfl ?aP (fun _ hk => hk.elim) ?aF ?aO ?aB ?aS ?aL ?_; (case aP => exact k100_mkM _ _ _ (⟨x102000_1, x102001_1, x102002_1⟩ : S100)); (case aB => exact (by repeat (first | (with_reducible first | exact HB.out | apply below_alloc | apply pw_below_drewN | apply below_drew1 | refine below_set ?_ GE101.out) | exact HB.out))); (case aF => exact (fun k_ hk => Kd.freshB (g := gb101) (o := .cells #[.int .i64 x102000_1, .int .i64 x102001_1, .int .u8 x102002_1] 100 (0, 0)) (by (with_reducible repeat (first | refine blk_drewN ?_ _ | refine blk_drew ?_ | refine blk_alloc ?_ _)); exact BK101.out) k_ hk)); (case aO => exact (by (with_reducible repeat (first | apply Kd.R_alloc | apply Kd.R_drewN | apply Kd.R_drew)); exact HO_4.out)); (case aS => exact (below_size (by repeat (first | (with_reducible first | exact HB.out | apply below_alloc | apply pw_below_drewN | apply below_drew1 | refine below_set ?_ GE101.out) | exact HB.out)))); (case aL => have := LMc44.out; omega); intro v107 w46 ho hb hg hat; rw [← Ny106.out] at ho; have n0_ := Aside0.mk (blk_grown (g := gb101) (o := .cells #[.int .i64 x102000_1, .int .i64 x102001_1, .int .u8 x102002_1] 100 (0, 0)) (by (with_reducible repeat (first | refine blk_drewN ?_ _ | refine blk_drew ?_ | refine blk_alloc ?_ _)); exact BK101.out) hg (Kd.R_away HO_4.out (fun _ hk => hk))); have n1_ := Aside0.mk (hb); have n2_ := Aside0.mk (ho); clear BK101; clear HB; clear HO_4; have BK101 := n0_; have HB := n1_; have HO108 := n2_; clear n0_ n1_ n2_; clear ho hb hg hat))
                  go_ret2
                  exact ⟨_, by first | rfl | (simp [errW_none, errW_some] <;> rfl) | (simp [*, errW_none, errW_some] <;> rfl), by (with_reducible repeat (first | apply Kd.R_alloc | apply Kd.R_drewN | apply Kd.R_drew)); exact Kd.R_mono HO108.out (fun _ hk => trivial), by repeat (first | (with_reducible first | exact HB.out | apply below_alloc | apply pw_below_drewN | apply below_drew1 | refine below_set ?_ GE101.out) | exact HB.out)⟩
                · rw [if_neg c44] at H
                  exact absurd H (by simp)
              · rw [if_neg c43] at H
                have c43b0 : decide (0 < x7_1) = false := decide_eq_false c43
                clear c43
                simp only [Option.some.injEq, Prod.mk.injEq] at H
                obtain ⟨rfl, rfl⟩ := H
                go_wp2
                go_ret2
                exact ⟨_, by first | rfl | (simp [errW_none, errW_some] <;> rfl) | (simp [*, errW_none, errW_some] <;> rfl), by (with_reducible repeat (first | apply Kd.R_alloc | apply Kd.R_drewN | apply Kd.R_drew)); exact Kd.R_mono HO_4.out (fun _ hk => trivial), by repeat (first | (with_reducible first | exact HB.out | apply below_alloc | apply pw_below_drewN | apply below_drew1 | refine below_set ?_ GE101.out) | exact HB.out)⟩
end Go.Proofs.Ytjmkhdhffmlhiaa.PAll
end
section
namespace Go.Proofs.Ytjmkhdhffmlhiaa.PAll
set_option linter.unusedVariables false
set_option linter.unusedSimpArgs false
open Go.RowKit Go.Proofs.YtjmkhdhffmlhiaaW.PrintWords Go.Proofs.YtjmkhdhffmlhiaaW.PrintLast Go.Proofs.YtjmkhdhffmlhiaaW.PrintMore
def RelV (a b : Int) : Prop := 0 ≤ a ∧ a ≤ 1048576 ∧ 0 ≤ b ∧ b ≤ 1000000 ∧ (a = b ∨ (100000 ≤ a ∧ 100000 ≤ b))
theorem RelV.step {a b d : Int} (h : RelV a b) (h0 : 0 ≤ d) (h9 : d ≤ 9) : RelV (mn (a * 10 + d) 1048576) (if b < 100000 then 10 * b + d else b) := by
  unfold RelV at h ⊢
  unfold mn
  split <;> split <;> omega
theorem w64_id {x : Int} (h0 : -9223372036854775808 ≤ x) (h1 : x ≤ 9223372036854775807) : wrap64 x = x := by unfold wrap64; omega
theorem form_digit {t : ByteArray} {i : Nat} (hd : isD t i) (k : Nat) (l : List S100) (turn lg v a b : Int) (hsz : t.size ≤ 65536) (hlg : 0 < lg) (hlg2 : lg ≤ 65536) (ha0 : 0 ≤ a) (ha : a < (t.size : Int)) (h48 : bt t a ≠ 48) (hv : 0 ≤ v ∧ v ≤ 1000000) :
    sloperef3_form.l0 (k + 1 + 1) t l turn lg (i : Int) v a b = sloperef3_form.l0 k t l turn (lg + 1) ((i + 1 : Nat) : Int) (if v < 100000 then 10 * v + (bt t (i : Int) - 48) else v) a b := by
  obtain ⟨d1, d2, d3⟩ := hd
  have hm : (bt t (i : Int) - 48) % 256 = bt t (i : Int) - 48 := by omega
  have e1 : wrap64 (lg + 1) = lg + 1 := w64_id (by omega) (by omega)
  have e2 : wrap64 ((i : Int) + 1) = ((i + 1 : Nat) : Int) := w64_id (by omega) (by omega)
  rw [sloperef3_form.l0, if_pos (by omega), if_pos (by omega), if_pos (by omega), if_pos d3, if_neg (by omega), if_pos ha0, if_pos ha, sloperef3_form.j1, if_pos (by simpa using h48), if_neg (by omega), hm, e1, e2]
  by_cases hb : v < 100000
  · have e3 : wrap64 (10 * v) = 10 * v := w64_id (by omega) (by omega)
    have e4 : wrap64 (10 * v + (bt t (i : Int) - 48)) = 10 * v + (bt t (i : Int) - 48) := w64_id (by omega) (by omega)
    rw [if_pos hb, if_pos hb, e3, e4]
  · rw [if_neg hb, if_neg hb]
theorem form_run {t : ByteArray} (hsz : t.size ≤ 65536) (s : Nat) (h48 : bt t (s : Int) ≠ 48) (l : List S100) (turn b : Int) :
    ∀ (f i : Nat) (v vr : Int), s < i → i ≤ t.size → t.size - i < f → RelV v vr → ∃ vr', RelV (dgo t s f i v).1 vr' ∧ ((dgo t s f i v).2 = t.size ∨ ¬ isD t (dgo t s f i v).2) ∧
      ∀ r, Ev (fun k => sloperef3_form.l0 k t l turn (((dgo t s f i v).2 : Int) - (s : Int)) ((dgo t s f i v).2 : Int) vr' (s : Int) b) r → Ev (fun k => sloperef3_form.l0 k t l turn ((i : Int) - (s : Int)) (i : Int) vr (s : Int) b) r
  | 0, i, v, vr, _, _, h, _ => absurd h (Nat.not_lt_zero _)
  | f + 1, i, v, vr, h1, h2, h3, h4 => by
    unfold dgo
    by_cases hd : isD t i
    · rw [if_pos hd, if_neg (fun h => by have := h.1; omega)]
      have d1 := hd.1
      have d2 := hd.2.1
      have d3 := hd.2.2
      obtain ⟨v1, v2, v3, v4, v5⟩ := id h4
      obtain ⟨vr', g1, g2, g3⟩ := form_run hsz s h48 l turn b f (i + 1) _ _ (by omega) (by omega) (by omega) (h4.step (d := bt t (i : Int) - 48) (by omega) (by omega))
      refine ⟨vr', g1, g2, fun r hr => ?_⟩
      obtain ⟨K, hK⟩ := g3 r hr
      refine ⟨K + 2, fun k hk => ?_⟩
      obtain ⟨k, rfl⟩ : ∃ k', k = k' + 1 + 1 := ⟨k - 2, by omega⟩
      show sloperef3_form.l0 (k + 1 + 1) t l turn ((i : Int) - (s : Int)) (i : Int) vr (s : Int) b = some r
      rw [form_digit hd k l turn _ vr (s : Int) b hsz (by omega) (by omega) (by omega) (by omega) h48 ⟨v3, v4⟩, ← hK k (by omega), show (i : Int) - (s : Int) + 1 = ((i + 1 : Nat) : Int) - (s : Int) by omega]
    · rw [if_neg hd]
      exact ⟨vr, h4, .inr hd, fun r hr => hr⟩
theorem form_num {t : ByteArray} (hsz : t.size ≤ 65536) {s : Nat} (hd : isD t s) (l : List S100) (turn v0 a0 b0 : Int) :
    ∃ vr', RelV (dnum t s) vr' ∧ (dend t s = t.size ∨ ¬ isD t (dend t s) ∨ bt t (s : Int) = 48) ∧
    ∀ r, Ev (fun k => sloperef3_form.l0 k t l turn ((dend t s : Int) - (s : Int)) (dend t s : Int) vr' (s : Int) 0) r → Ev (fun k => sloperef3_form.l0 k t l turn 0 (s : Int) v0 a0 b0) r := by
  obtain ⟨d1, d2, d3⟩ := id hd
  have hm : (bt t (s : Int) - 48) % 256 = bt t (s : Int) - 48 := by omega
  have e1 : wrap64 ((0 : Int) + 1) = 1 := w64_id (by omega) (by omega)
  have e2 : wrap64 ((s : Int) + 1) = ((s + 1 : Nat) : Int) := w64_id (by omega) (by omega)
  have first : ∀ k, sloperef3_form.l0 (k + 1 + 1) t l turn 0 (s : Int) v0 a0 b0 = sloperef3_form.l0 k t l turn (((s + 1 : Nat) : Int) - (s : Int)) ((s + 1 : Nat) : Int) (bt t (s : Int) - 48) (s : Int) 0 := fun k => by
    rw [sloperef3_form.l0, if_pos (by omega), if_pos (by omega), if_pos (by omega), if_pos d3, if_pos rfl, sloperef3_form.j1, if_pos rfl, if_pos rfl, if_pos (by decide), hm, e1, e2, show (((s + 1 : Nat) : Int) - (s : Int)) = 1 by omega]
  have hrel : RelV (mn (0 * 10 + (bt t (s : Int) - 48)) 1048576) (bt t (s : Int) - 48) := by
    unfold RelV mn
    split <;> omega
  have key : ∃ vr', RelV (dnum t s) vr' ∧ (dend t s = t.size ∨ ¬ isD t (dend t s) ∨ bt t (s : Int) = 48) ∧
    ∀ r, Ev (fun k => sloperef3_form.l0 k t l turn ((dend t s : Int) - (s : Int)) (dend t s : Int) vr' (s : Int) 0) r → Ev (fun k => sloperef3_form.l0 k t l turn (((s + 1 : Nat) : Int) - (s : Int)) ((s + 1 : Nat) : Int) (bt t (s : Int) - 48) (s : Int) 0) r := by
    unfold dnum dend dgo
    rw [if_pos hd]
    by_cases h48 : bt t (s : Int) = 48
    · rw [if_pos ⟨rfl, h48⟩]
      exact ⟨_, hrel, .inr (.inr h48), fun r hr => hr⟩
    · rw [if_neg (fun h => h48 h.2)]
      obtain ⟨vr', g1, g2, g3⟩ := form_run hsz s h48 l turn 0 (t.size - s) (s + 1) _ _ (by omega) (by omega) (by omega) hrel
      refine ⟨vr', g1, ?_, g3⟩
      rcases g2 with h2 | h2
      · exact .inl h2
      · exact .inr (.inl h2)
  obtain ⟨vr', g1, g2, g3⟩ := key
  refine ⟨vr', g1, g2, fun r hr => ?_⟩
  obtain ⟨K, hK⟩ := g3 r hr
  refine ⟨K + 2, fun k hk => ?_⟩
  obtain ⟨k, rfl⟩ : ∃ k', k = k' + 1 + 1 := ⟨k - 2, by omega⟩
  show sloperef3_form.l0 (k + 1 + 1) t l turn 0 (s : Int) v0 a0 b0 = some r
  rw [first, ← hK k (by omega)]
theorem form_end {t : ByteArray} (l : List S100) (turn lg v a b : Int) (hlg : 0 < lg) (hl : l.length < 100000) :
    Ev (fun k => sloperef3_form.l0 k t l turn lg (t.size : Int) v a b) (if turn = 0 then (l, (t.size : Int)) else (l ++ [⟨v, a, b⟩], -1)) := by
  refine ⟨2, fun k hk => ?_⟩
  obtain ⟨k, rfl⟩ : ∃ k', k = k' + 1 + 1 := ⟨k - 2, by omega⟩
  show sloperef3_form.l0 (k + 1 + 1) t l turn lg (t.size : Int) v a b = _
  rw [sloperef3_form.l0, if_neg (by omega), if_neg (by omega), if_pos (by omega), sloperef3_form.j3]
  by_cases ht : turn = 0
  · rw [if_pos (by simp [ht]), if_pos ht]
  · rw [if_neg (by simp [ht]), if_pos (by omega), if_pos (by omega), if_neg ht]
theorem form_sep {t : ByteArray} (hsz : t.size ≤ 65536) {s i : Nat} (hi : i < t.size) (hs : s < i) (hnd : ¬ isD t i ∨ bt t (s : Int) = 48) (l : List S100) (hl : l.length < 100000) (turn v : Int) (k : Nat) :
    sloperef3_form.l0 (k + 1 + 1 + 1) t l turn ((i : Int) - (s : Int)) (i : Int) v (s : Int) 0 = (sloperef3_after.f turn (bt t (i : Int))).bind fun ok =>
      if ok = true then (if bt t (i : Int) = 45 then sloperef3_form.l0 k t (l ++ [⟨v, (s : Int), bt t (i : Int)⟩]) 2 0 ((i + 1 : Nat) : Int) v (s : Int) (bt t (i : Int)) else sloperef3_form.l0 k t (l ++ [⟨v, (s : Int), bt t (i : Int)⟩]) 1 0 ((i + 1 : Nat) : Int) v (s : Int) (bt t (i : Int))) else some (l, (i : Int)) := by
  have e2 : wrap64 ((i : Int) + 1) = ((i + 1 : Nat) : Int) := w64_id (by omega) (by omega)
  have hj : sloperef3_form.j1 (k + 1 + 1) t l turn ((i : Int) - (s : Int)) (i : Int) (bt t (i : Int)) false v (s : Int) 0 = (sloperef3_after.f turn (bt t (i : Int))).bind fun ok =>
      if ok = true then (if bt t (i : Int) = 45 then sloperef3_form.l0 k t (l ++ [⟨v, (s : Int), bt t (i : Int)⟩]) 2 0 ((i + 1 : Nat) : Int) v (s : Int) (bt t (i : Int)) else sloperef3_form.l0 k t (l ++ [⟨v, (s : Int), bt t (i : Int)⟩]) 1 0 ((i + 1 : Nat) : Int) v (s : Int) (bt t (i : Int))) else some (l, (i : Int)) := by
    rw [sloperef3_form.j1, if_neg (by decide), if_neg (by omega)]
    congr 1
    funext ok
    rw [sloperef3_form.j2]
    cases ok with
    | true => rw [if_neg (by decide), if_pos (by omega), Option.bind_some, e2, if_pos rfl]
    | false => rw [if_pos (show (!false) = true from rfl), if_neg (by decide)]
  rw [sloperef3_form.l0, if_pos (by omega), if_pos (by omega)]
  by_cases h1 : bt t (i : Int) ≥ 48
  · by_cases h2 : bt t (i : Int) ≤ 57
    · have h48 : bt t (s : Int) = 48 := by
        rcases hnd with h | h
        · exact absurd ⟨hi, h1, h2⟩ h
        · exact h
      have hb : (bt t (s : Int) != 48) = false := by rw [h48]; rfl
      rw [if_pos h1, if_pos h2, if_neg (by omega), if_pos (by omega), if_pos (by omega), hb, hj]
    · rw [if_pos h1, if_neg h2, hj]
  · rw [if_neg h1, hj]
theorem form_no {t : ByteArray} {i : Nat} (hi : i < t.size) (hd : ¬ isD t i) (l : List S100) (turn v a b : Int) : Ev (fun k => sloperef3_form.l0 k t l turn 0 (i : Int) v a b) (l, (i : Int)) := by
  refine ⟨3, fun k hk => ?_⟩
  obtain ⟨k, rfl⟩ : ∃ k', k = k' + 1 + 1 + 1 := ⟨k - 3, by omega⟩
  show sloperef3_form.l0 (k + 1 + 1 + 1) t l turn 0 (i : Int) v a b = _
  have hj : sloperef3_form.j1 (k + 1 + 1) t l turn 0 (i : Int) (bt t (i : Int)) false v a b = some (l, (i : Int)) := by
    rw [sloperef3_form.j1, if_neg (by decide), if_pos rfl, sloperef3_form.j2, if_pos rfl]
  rw [sloperef3_form.l0, if_pos (by omega), if_pos (by omega)]
  by_cases h1 : bt t (i : Int) ≥ 48
  · by_cases h2 : bt t (i : Int) ≤ 57
    · exact absurd ⟨hi, h1, h2⟩ hd
    · rw [if_pos h1, if_neg h2, hj]
  · rw [if_neg h1, hj]
theorem dend_no {t : ByteArray} {i : Nat} (hd : ¬ isD t i) : dend t i = i := by
  unfold dend dgo
  rw [if_neg hd]
theorem dend_yes {t : ByteArray} {i : Nat} (hd : isD t i) : i < dend t i := by
  unfold dend dgo
  rw [if_pos hd]
  split
  · exact Nat.lt_succ_self i
  · have := dgo_end t i (t.size - i) (i + 1) (mn (0 * 10 + (bt t (i : Int) - 48)) 1048576) hd.1
    omega
def LikeN : Int → List S95 → List S100 → Prop
  | _, [], [] => True
  | b, x :: r, y :: s => RelV x.f0 y.f0 ∧ x.f1 = y.f1 ∧ (x.f2 = true ↔ b = 45) ∧ LikeN y.f2 r s
  | _, _, _ => False
def turnOf (b : Int) : Int := if b = 45 then 2 else 1
theorem turnOf_ne (b : Int) : ¬ turnOf b = 0 := by unfold turnOf; split <;> omega
theorem form_go {t : ByteArray} (hsz : t.size ≤ 65536) : ∀ (f : Nat) (l : List S95) (i : Nat) (lr : List S100) (v0 a0 b0 bh : Int), i ≤ t.size → t.size - i < f → 0 < l.length → lr.length = l.length → lr.length ≤ i → (lastAt t l i = true ↔ bh = 45) →
    ∃ R, Ev (fun k => sloperef3_form.l0 k t lr (turnOf bh) 0 (i : Int) v0 a0 b0) R ∧ (0 ≤ (ngo t f l i).2 → R.2 = (ngo t f l i).2) ∧ ((ngo t f l i).2 < 0 → R.2 = -1 ∧ ∃ r rr, (ngo t f l i).1 = l ++ r ∧ R.1 = lr ++ rr ∧ LikeN bh r rr)
  | 0, l, i, lr, v0, a0, b0, bh, h1, h2, h3, h4, h5, h6 => absurd h2 (Nat.not_lt_zero _)
  | f + 1, l, i, lr, v0, a0, b0, bh, h1, h2, h3, h4, h5, h6 => by
    have hle := dend_le h1
    unfold ngo
    by_cases hi : i < t.size
    · rw [if_pos (.inl hi)]
      by_cases hd : isD t i
      · have hlt := dend_yes hd
        rw [if_pos hlt]
        obtain ⟨vr, g1, g2, g3⟩ := form_num hsz hd lr (turnOf bh) v0 a0 b0
        have hone : LikeN bh [⟨dnum t i, (i : Int), lastAt t l i⟩] [⟨vr, (i : Int), 0⟩] := ⟨g1, rfl, h6, trivial⟩
        by_cases hz : dend t i = t.size
        · rw [if_pos hz]
          have g4 := form_end (t := t) lr (turnOf bh) ((dend t i : Int) - (i : Int)) vr (i : Int) 0 (by omega) (by omega)
          rw [show (t.size : Int) = (dend t i : Int) by omega] at g4
          replace g4 := g3 _ g4
          rw [if_neg (turnOf_ne bh)] at g4
          exact ⟨_, g4, fun h => by simp only at h; omega, fun _ => ⟨rfl, _, _, rfl, rfl, hone⟩⟩
        · rw [if_neg hz]
          have hi2 : dend t i < t.size := by omega
          have g2' : ¬ isD t (dend t i) ∨ bt t (i : Int) = 48 := by
            rcases g2 with h | h
            · exact absurd h hz
            · exact h
          have hsep := fun k => form_sep hsz hi2 hlt g2' lr (show lr.length < 100000 by omega) (turnOf bh) vr k
          by_cases hok : bt t (dend t i : Int) = 44 ∨ (bt t (dend t i : Int) = 45 ∧ lastAt t l i = false)
          · rw [if_pos hok]
            have haft : sloperef3_after.f (turnOf bh) (bt t (dend t i : Int)) = some true := by
              unfold sloperef3_after.f turnOf
              by_cases hb : bh = 45
              · have := h6.2 hb
                rw [if_pos hb, if_neg (by decide), if_neg (by decide)]
                rcases hok with h | ⟨_, h⟩
                · rw [h]; rfl
                · rw [this] at h; cases h
              · rw [if_neg hb, if_neg (by decide), if_pos rfl]
                rcases hok with h | ⟨h, _⟩
                · rw [if_pos h]
                · rw [h]; rfl
            have hl9 : lastAt t (l ++ [⟨dnum t i, (i : Int), lastAt t l i⟩]) (dend t i + 1) = true ↔ bt t (dend t i : Int) = 45 := by
              unfold lastAt
              rw [decide_eq_true (by simp; omega), Bool.true_and, show ((dend t i + 1 : Nat) : Int) - 1 = (dend t i : Int) by omega, beq_iff_eq]
            obtain ⟨R, r1, r2, r3⟩ := form_go hsz f (l ++ [⟨dnum t i, (i : Int), lastAt t l i⟩]) (dend t i + 1) (lr ++ [⟨vr, (i : Int), bt t (dend t i : Int)⟩]) vr (i : Int) (bt t (dend t i : Int)) (bt t (dend t i : Int)) (by omega) (by omega) (by simp) (by simp [h4]) (by simp; omega) hl9
            refine ⟨R, g3 R ?_, r2, fun h => ?_⟩
            · obtain ⟨K, hK⟩ := r1
              refine ⟨K + 3, fun k hk => ?_⟩
              obtain ⟨k, rfl⟩ : ∃ k', k = k' + 1 + 1 + 1 := ⟨k - 3, by omega⟩
              show sloperef3_form.l0 (k + 1 + 1 + 1) t lr _ ((dend t i : Int) - (i : Int)) (dend t i : Int) vr (i : Int) 0 = some R
              rw [hsep, haft, Option.bind_some, if_pos rfl, ← hK k (by omega)]
              unfold turnOf
              split <;> rfl
            · obtain ⟨q1, r, rr, q2, q3, q4⟩ := r3 h
              refine ⟨q1, ⟨dnum t i, (i : Int), lastAt t l i⟩ :: r, ⟨vr, (i : Int), bt t (dend t i : Int)⟩ :: rr, ?_, ?_, g1, rfl, h6, q4⟩
              · rw [q2, List.append_assoc]
                rfl
              · rw [q3, List.append_assoc]
                rfl
          · rw [if_neg hok]
            have haft : sloperef3_after.f (turnOf bh) (bt t (dend t i : Int)) = some false := by
              unfold sloperef3_after.f turnOf
              have h44 : bt t (dend t i : Int) ≠ 44 := fun h => hok (.inl h)
              by_cases hb : bh = 45
              · rw [if_pos hb, if_neg (by decide), if_neg (by decide), beq_false_of_ne h44]
              · have h45 : bt t (dend t i : Int) ≠ 45 := fun h => hok (.inr ⟨h, by cases hq : lastAt t l i with | false => rfl | true => exact absurd (h6.1 hq) hb⟩)
                rw [if_neg hb, if_neg (by decide), if_pos rfl, if_neg h44, beq_false_of_ne h45]
            refine ⟨(lr, (dend t i : Int)), g3 _ ?_, fun _ => rfl, fun h => by simp only at h; omega⟩
            refine ⟨3, fun k hk => ?_⟩
            obtain ⟨k, rfl⟩ : ∃ k', k = k' + 1 + 1 + 1 := ⟨k - 3, by omega⟩
            show sloperef3_form.l0 (k + 1 + 1 + 1) t lr _ ((dend t i : Int) - (i : Int)) (dend t i : Int) vr (i : Int) 0 = _
            rw [hsep, haft, Option.bind_some, if_neg (by decide)]
      · have he := dend_no hd
        rw [if_neg (by omega), he]
        exact ⟨_, form_no hi hd lr _ v0 a0 b0, fun _ => rfl, fun h => by simp only at h; omega⟩
    · have hie : i = t.size := by omega
      have hnd : ¬ isD t i := fun h => by have := h.1; omega
      have he := dend_no hnd
      by_cases hl : 1 < l.length
      · rw [if_pos (.inr hl), if_neg (by omega), he]
        refine ⟨(lr, (i : Int)), ⟨2, fun k hk => ?_⟩, fun _ => rfl, fun h => by simp only at h; omega⟩
        obtain ⟨k, rfl⟩ : ∃ k', k = k' + 1 + 1 := ⟨k - 2, by omega⟩
        show sloperef3_form.l0 (k + 1 + 1) t lr _ 0 (i : Int) v0 a0 b0 = _
        rw [sloperef3_form.l0, if_neg (by omega), if_pos rfl, if_neg (by omega), sloperef3_form.j3, if_pos rfl, hie]
      · rw [if_neg (fun h => by rcases h with h | h; exact hi h; exact hl h)]
        have hb : bh ≠ 45 := fun h => by
          have := h6.2 h
          unfold lastAt at this
          rw [decide_eq_false hl, Bool.false_and] at this
          cases this
        refine ⟨(lr, -1), ⟨2, fun k hk => ?_⟩, fun h => by simp only at h; omega, fun _ => ⟨rfl, [], [], by simp, by simp, trivial⟩⟩
        obtain ⟨k, rfl⟩ : ∃ k', k = k' + 1 + 1 := ⟨k - 2, by omega⟩
        show sloperef3_form.l0 (k + 1 + 1) t lr _ 0 (i : Int) v0 a0 b0 = _
        rw [sloperef3_form.l0, if_neg (by omega), if_pos rfl, if_pos (by omega), show turnOf bh = 1 from if_neg hb, if_pos rfl, if_neg (show ¬ ((0 : Int) > 0) by decide), sloperef3_form.j3, if_neg (by decide), if_neg (by decide)]
theorem form_says {t : ByteArray} (hsz : t.size ≤ 65536) : ∃ R, Ev (fun k => sloperef3_form.f k t) R ∧ (0 ≤ (nums t).2 → R.2 = (nums t).2) ∧ ((nums t).2 < 0 → R.2 = -1 ∧ ∃ x r y rr, (nums t).1 = x :: r ∧ R.1 = y :: rr ∧ RelV x.f0 y.f0 ∧ y.f2 ≠ 45 ∧ LikeN y.f2 r rr) := by
  have hle := dend_le (t := t) (s := 0) (Nat.zero_le _)
  have h00 : ((0 : Nat) : Int) = 0 := rfl
  unfold nums
  by_cases hd : isD t 0
  · have hlt := dend_yes hd
    obtain ⟨vr, g1, g2, g3⟩ := form_num hsz hd [] 0 0 0 0
    by_cases hz : dend t 0 = t.size
    · rw [if_neg (by omega)]
      have g4 := form_end (t := t) [] 0 ((dend t 0 : Int) - ((0 : Nat) : Int)) vr ((0 : Nat) : Int) 0 (by omega) (by simp)
      rw [if_pos rfl, show (t.size : Int) = (dend t 0 : Int) by omega] at g4
      replace g4 := g3 _ g4
      exact ⟨_, g4, fun _ => rfl, fun h => by simp only at h; omega⟩
    · have hi2 : dend t 0 < t.size := by omega
      have g2' : ¬ isD t (dend t 0) ∨ bt t ((0 : Nat) : Int) = 48 := by
        rcases g2 with h | h
        · exact absurd h hz
        · exact h
      have hsep := fun k => form_sep hsz hi2 hlt g2' ([] : List S100) (by simp) 0 vr k
      by_cases h58 : bt t (dend t 0 : Int) = 58
      · rw [if_pos ⟨hlt, hi2, h58⟩]
        obtain ⟨R, r1, r2, r3⟩ := form_go hsz (t.size + 1) [⟨dnum t 0, 0, false⟩] (dend t 0 + 1) [⟨vr, ((0 : Nat) : Int), 58⟩] vr ((0 : Nat) : Int) 58 58 (by omega) (by omega) (by simp) (by simp) (by simp) (by unfold lastAt; simp)
        refine ⟨R, g3 R ?_, r2, fun h => ?_⟩
        · obtain ⟨K, hK⟩ := r1
          refine ⟨K + 3, fun k hk => ?_⟩
          obtain ⟨k, rfl⟩ : ∃ k', k = k' + 1 + 1 + 1 := ⟨k - 3, by omega⟩
          show sloperef3_form.l0 (k + 1 + 1 + 1) t [] 0 ((dend t 0 : Int) - ((0 : Nat) : Int)) (dend t 0 : Int) vr ((0 : Nat) : Int) 0 = some R
          rw [hsep, h58, show sloperef3_after.f 0 58 = some true from rfl, Option.bind_some, if_pos rfl, if_neg (by decide), ← hK k (by omega)]
          rfl
        · obtain ⟨q1, r, rr, q2, q3, q4⟩ := r3 h
          exact ⟨q1, _, _, _, _, q2, q3, g1, show (58 : Int) ≠ 45 by decide, q4⟩
      · rw [if_neg (fun h => h58 h.2.2)]
        refine ⟨([], (dend t 0 : Int)), g3 _ ?_, fun _ => rfl, fun h => by simp only at h; omega⟩
        refine ⟨3, fun k hk => ?_⟩
        obtain ⟨k, rfl⟩ : ∃ k', k = k' + 1 + 1 + 1 := ⟨k - 3, by omega⟩
        show sloperef3_form.l0 (k + 1 + 1 + 1) t [] 0 ((dend t 0 : Int) - ((0 : Nat) : Int)) (dend t 0 : Int) vr ((0 : Nat) : Int) 0 = _
        rw [hsep, show sloperef3_after.f 0 (bt t (dend t 0 : Int)) = some false from by unfold sloperef3_after.f; rw [if_pos rfl, beq_false_of_ne h58], Option.bind_some, if_neg (by decide)]
  · have he := dend_no hd
    rw [if_neg (by omega), he]
    by_cases hi : 0 < t.size
    · exact ⟨_, form_no hi hd [] 0 0 0 0, fun _ => rfl, fun h => by simp only at h; omega⟩
    · refine ⟨([], 0), ⟨2, fun k hk => ?_⟩, fun _ => rfl, fun h => by simp only at h; omega⟩
      obtain ⟨k, rfl⟩ : ∃ k', k = k' + 1 + 1 := ⟨k - 2, by omega⟩
      show sloperef3_form.l0 (k + 1 + 1) t [] 0 0 0 0 0 0 = _
      rw [sloperef3_form.l0, if_neg (by omega), if_pos rfl, if_neg (by simp), sloperef3_form.j3, if_pos rfl, show (t.size : Int) = 0 by omega]
end Go.Proofs.Ytjmkhdhffmlhiaa.PAll
end
section
namespace Go.Proofs.Ytjmkhdhffmlhiaa.PAll
open Go.RowKit Go.Proofs.YtjmkhdhffmlhiaaW.PrintWords Go.Proofs.YtjmkhdhffmlhiaaW.PrintLast Go.Proofs.YtjmkhdhffmlhiaaW.PrintMore
attribute [local go_sem] max2_int min2_int max_two min_two max_three min_three max_four min_four w64_u8 w64_mod256   -- for this text's walks alone
set_option linter.unusedVariables false
set_option linter.unusedSimpArgs false
end Go.Proofs.Ytjmkhdhffmlhiaa.PAll
end
section
namespace Go.Proofs.Ytjmkhdhffmlhiaa.PAll
open Go.RowKit Go.Proofs.YtjmkhdhffmlhiaaW.PrintWords Go.Proofs.YtjmkhdhffmlhiaaW.PrintLast Go.Proofs.YtjmkhdhffmlhiaaW.PrintMore
attribute [local go_sem] max2_int min2_int max_two min_two max_three min_three max_four min_four w64_u8 w64_mod256   -- for this text's walks alone
set_option linter.unusedVariables false
set_option linter.unusedSimpArgs false
end Go.Proofs.Ytjmkhdhffmlhiaa.PAll
end
section
namespace Go.Proofs.Ytjmkhdhffmlhiaa.PAll
open Go.RowKit Go.Proofs.YtjmkhdhffmlhiaaW.PrintWords Go.Proofs.YtjmkhdhffmlhiaaW.PrintLast Go.Proofs.YtjmkhdhffmlhiaaW.PrintMore
attribute [local go_sem] max2_int min2_int max_two min_two max_three min_three max_four min_four w64_u8 w64_mod256   -- for this text's walks alone
set_option linter.unusedVariables false
set_option linter.unusedSimpArgs false
end Go.Proofs.Ytjmkhdhffmlhiaa.PAll
end
section
namespace Go.Proofs.Ytjmkhdhffmlhiaa.PAll
open Go.RowKit Go.Proofs.YtjmkhdhffmlhiaaW.PrintWords Go.Proofs.YtjmkhdhffmlhiaaW.PrintLast Go.Proofs.YtjmkhdhffmlhiaaW.PrintMore
attribute [local go_sem] max2_int min2_int max_two min_two max_three min_three max_four min_four w64_u8 w64_mod256   -- for this text's walks alone
set_option linter.unusedVariables false
set_option linter.unusedSimpArgs false
end Go.Proofs.Ytjmkhdhffmlhiaa.PAll
end
section
namespace Go.Proofs.Ytjmkhdhffmlhiaa.PAll
open Go.RowKit Go.Proofs.YtjmkhdhffmlhiaaW.PrintWords Go.Proofs.YtjmkhdhffmlhiaaW.PrintLast Go.Proofs.YtjmkhdhffmlhiaaW.PrintMore
attribute [local go_sem] max2_int min2_int max_two min_two max_three min_three max_four min_four w64_u8 w64_mod256   -- for this text's walks alone
set_option linter.unusedVariables false
set_option linter.unusedSimpArgs false
end Go.Proofs.Ytjmkhdhffmlhiaa.PAll
end
section
namespace Go.Proofs.Ytjmkhdhffmlhiaa.PAll
open Go.RowKit Go.Proofs.YtjmkhdhffmlhiaaW.PrintWords Go.Proofs.YtjmkhdhffmlhiaaW.PrintLast Go.Proofs.YtjmkhdhffmlhiaaW.PrintMore
attribute [local go_sem] max2_int min2_int max_two min_two max_three min_three max_four min_four w64_u8 w64_mod256   -- for this text's walks alone
set_option linter.unusedVariables false
set_option linter.unusedSimpArgs false
end Go.Proofs.Ytjmkhdhffmlhiaa.PAll
end
section
namespace Go.Proofs.Ytjmkhdhffmlhiaa.PAll
open Go.RowKit Go.Proofs.YtjmkhdhffmlhiaaW.PrintWords Go.Proofs.YtjmkhdhffmlhiaaW.PrintLast Go.Proofs.YtjmkhdhffmlhiaaW.PrintMore
attribute [local go_sem] max2_int min2_int max_two min_two max_three min_three max_four min_four w64_u8 w64_mod256   -- for this text's walks alone
set_option linter.unusedVariables false
set_option linter.unusedSimpArgs false
end Go.Proofs.Ytjmkhdhffmlhiaa.PAll
end
section
namespace Go.Proofs.Ytjmkhdhffmlhiaa.PAll
open Go.RowKit Go.Proofs.YtjmkhdhffmlhiaaW.PrintWords Go.Proofs.YtjmkhdhffmlhiaaW.PrintLast Go.Proofs.YtjmkhdhffmlhiaaW.PrintMore
attribute [local go_sem] max2_int min2_int max_two min_two max_three min_three max_four min_four w64_u8 w64_mod256   -- for this text's walks alone
set_option linter.unusedVariables false
set_option linter.unusedSimpArgs false
end Go.Proofs.Ytjmkhdhffmlhiaa.PAll
end
section
namespace Go.Proofs.Ytjmkhdhffmlhiaa.PAll
open Go.RowKit Go.Proofs.YtjmkhdhffmlhiaaW.PrintWords Go.Proofs.YtjmkhdhffmlhiaaW.PrintLast Go.Proofs.YtjmkhdhffmlhiaaW.PrintMore
attribute [local go_sem] max2_int min2_int max_two min_two max_three min_three max_four min_four w64_u8 w64_mod256   -- for this text's walks alone
set_option linter.unusedVariables false
set_option linter.unusedSimpArgs false
end Go.Proofs.Ytjmkhdhffmlhiaa.PAll
end
section
namespace Go.Proofs.Ytjmkhdhffmlhiaa.PAll
open Go.RowKit Go.Proofs.YtjmkhdhffmlhiaaW.PrintWords Go.Proofs.YtjmkhdhffmlhiaaW.PrintLast Go.Proofs.YtjmkhdhffmlhiaaW.PrintMore
attribute [local go_sem] max2_int min2_int max_two min_two max_three min_three max_four min_four w64_u8 w64_mod256   -- for this text's walks alone
set_option linter.unusedVariables false
set_option linter.unusedSimpArgs false
end Go.Proofs.Ytjmkhdhffmlhiaa.PAll
end
section
namespace Go.Proofs.Ytjmkhdhffmlhiaa.PAll
set_option linter.unusedVariables false
open Go.RowKit Go.Proofs.YtjmkhdhffmlhiaaW.PrintWords Go.Proofs.YtjmkhdhffmlhiaaW.PrintMore
def MayP (n : Int) (ws : List Int) : Prop := 0 ≤ n ∧ n ≤ 4096 ∧ ws.length = (n.toNat + 63) / 64 ∧ ∀ e : Nat, n.toNat ≤ e → hb ws e = false
noncomputable def may (n : Int) (ws : List Int) : Bool := @decide (MayP n ws) (Classical.propDecidable _)
theorem MayP.is {n : Int} {ws : List Int} (h : MayP n ws) (hw : Wds ws) : Is n.toNat (hb ws) ws :=
  ⟨h.2.2.1, hw, fun e => by
    by_cases he : e < n.toNat
    · simp [he]
    · rw [h.2.2.2 e (by omega)]; simp [he]⟩
theorem Is.may {n : Nat} {p : Nat → Bool} {ws : List Int} (h : Is n p ws) (hn : n ≤ 4096) : MayP (n : Int) ws :=
  ⟨by omega, by omega, by rw [h.len]; simp, fun e he => (by
    rw [h.has]
    have : ¬ e < n := by omega
    simp [this])⟩
def TurnSays (n : Int) (ws : List Int) (e : Int) (yes : Bool) (r : Int × List Int × Int) : Prop :=
  (¬ MayP n ws ∧ r = (0, [], 61)) ∨ (MayP n ws ∧ (((e < 0 ∨ n ≤ e) ∧ r = (0, [], 62)) ∨ (0 ≤ e ∧ e < n ∧ ∃ vs, Is n.toNat (fun d => if d = e.toNat then yes else hb ws d) vs ∧ r = (n, vs, 0))))
theorem TurnSays.eq {n : Int} {ws : List Int} {e : Int} {yes : Bool} {r q : Int × List Int × Int} (h : TurnSays n ws e yes r) (k : TurnSays n ws e yes q) : r = q := by
  rcases h with ⟨h1, rfl⟩ | ⟨h1, ⟨h2, rfl⟩ | ⟨h2, h3, vs, h4, rfl⟩⟩ <;> rcases k with ⟨k1, rfl⟩ | ⟨k1, ⟨k2, rfl⟩ | ⟨k2, k3, us, k4, rfl⟩⟩
  · rfl
  · exact absurd k1 h1
  · exact absurd k1 h1
  · exact absurd h1 k1
  · rfl
  · omega
  · exact absurd h1 k1
  · omega
  · rw [h4.eq k4 (fun _ _ => rfl)]
end Go.Proofs.Ytjmkhdhffmlhiaa.PAll
end
section
namespace Go.Proofs.Ytjmkhdhffmlhiaa.PAll
open Go.RowKit Go.Proofs.YtjmkhdhffmlhiaaW.PrintWords Go.Proofs.YtjmkhdhffmlhiaaW.PrintLast Go.Proofs.YtjmkhdhffmlhiaaW.PrintMore
attribute [local go_sem] max2_int min2_int max_two min_two max_three min_three max_four min_four w64_u8 w64_mod256   -- for this text's walks alone
set_option linter.unusedVariables false
set_option linter.unusedSimpArgs false
mutual
def sloperef3_Parse.l0 : Nat → List (S100) → Int → List Bool → Int → Option (Int × List Int × Int × Int)
  | 0, _, _, _, _ => none
  | k + 1, x5, x7, x8, x9 => if x9 < (x5.length : Int) then (if 0 ≤ x9 then (if ((rd_T100 x5 x9).f0) ≥ x7 then ((sloperef3_none.f).bind fun bt129 => (some (bt129.1, bt129.2, (rd_T100 x5 x9).f1, 62))) else (if 0 ≤ (wrap64 (x9 - 1)) then (if (wrap64 (x9 - 1)) < (x5.length : Int) then (if ((rd_T100 x5 (wrap64 (x9 - 1))).f2) = 45 then (if ((rd_T100 x5 x9).f0) ≤ ((rd_T100 x5 (wrap64 (x9 - 1))).f0) then ((sloperef3_none.f).bind fun bt135 => (some (bt135.1, bt135.2, (rd_T100 x5 x9).f1, 1))) else (sloperef3_Parse.l1 k x5 x7 x8 x9 ((rd_T100 x5 (wrap64 (x9 - 1))).f0) ((rd_T100 x5 x9).f0) ((rd_T100 x5 x9).f1) ((rd_T100 x5 x9).f2))) else (if x9 > 1 then (if ((rd_T100 x5 x9).f0) < (wrap64 (((rd_T100 x5 (wrap64 (x9 - 1))).f0) + 2)) then ((sloperef3_none.f).bind fun bt143 => (some (bt143.1, bt143.2, (rd_T100 x5 x9).f1, 1))) else (if 0 ≤ ((rd_T100 x5 x9).f0) then (if ((rd_T100 x5 x9).f0) < (x8.length : Int) then (sloperef3_Parse.l0 k x5 x7 (x8.set (((rd_T100 x5 x9).f0) : Int).toNat true) (wrap64 (x9 + 1))) else (none)) else (none))) else (if 0 ≤ ((rd_T100 x5 x9).f0) then (if ((rd_T100 x5 x9).f0) < (x8.length : Int) then (sloperef3_Parse.l0 k x5 x7 (x8.set (((rd_T100 x5 x9).f0) : Int).toNat true) (wrap64 (x9 + 1))) else (none)) else (none)))) else (none)) else (none))) else (none)) else ((sloperef3_Of.f k x8).bind fun bt123 => (some (bt123.1, bt123.2, 0, 0)))
def sloperef3_Parse.l1 : Nat → List (S100) → Int → List Bool → Int → Int → Int → Int → Int → Option (Int × List Int × Int × Int)
  | 0, _, _, _, _, _, _, _, _ => none
  | k + 1, x5, x7, x8, x9, x11, x129000, x129001, x129002 => if x11 < x129000 then (if 0 ≤ x11 then (if x11 < (x8.length : Int) then (sloperef3_Parse.l1 k x5 x7 (x8.set (x11 : Int).toNat true) x9 (wrap64 (x11 + 1)) x129000 x129001 x129002) else (none)) else (none)) else (if 0 ≤ x129000 then (if x129000 < (x8.length : Int) then (sloperef3_Parse.l0 k x5 x7 (x8.set (x129000 : Int).toNat true) (wrap64 (x9 + 1))) else (none)) else (none))
end
def sloperef3_Parse.f (k : Nat) (a0 : ByteArray) : Option (Int × List Int × Int × Int) := if (a0.size : Int) > 65536 then ((sloperef3_none.f).bind fun bt102 => (some (bt102.1, bt102.2, 65536, 4))) else ((sloperef3_form.f k a0).bind fun bt106 => (if bt106.2 ≥ 0 then ((sloperef3_none.f).bind fun bt110 => (some (bt110.1, bt110.2, bt106.2, 5))) else (if 0 < (bt106.1.length : Int) then ((sloperef3_sized.f ((rd_T100 bt106.1 0).f0)).bind fun t115 => (if t115 = true then (if 0 ≤ ((rd_T100 bt106.1 0).f0) then (if ((rd_T100 bt106.1 0).f0 : Int).toNat ≤ 281474976710656 then (sloperef3_Parse.l0 k bt106.1 ((rd_T100 bt106.1 0).f0) (List.replicate ((rd_T100 bt106.1 0).f0 : Int).toNat false) 1) else (none)) else (none)) else ((sloperef3_none.f).bind fun bt116 => (some (bt116.1, bt116.2, 0, 60))))) else (none))))
theorem sloperef3_Parse.mono_l : ∀ k, (∀ y0 y1 y2 y3, LeO (sloperef3_Parse.l0 k y0 y1 y2 y3) (sloperef3_Parse.l0 (k + 1) y0 y1 y2 y3)) ∧ (∀ y0 y1 y2 y3 y4 y5 y6 y7, LeO (sloperef3_Parse.l1 k y0 y1 y2 y3 y4 y5 y6 y7) (sloperef3_Parse.l1 (k + 1) y0 y1 y2 y3 y4 y5 y6 y7))
  | 0 => ⟨fun _ _ _ _ r h => by simp [sloperef3_Parse.l0] at h, fun _ _ _ _ _ _ _ _ r h => by simp [sloperef3_Parse.l1] at h⟩
  | k + 1 => by
    obtain ⟨ih0, ih1⟩ := sloperef3_Parse.mono_l k
    refine ⟨?_, ?_⟩
    · intro y0 y1 y2 y3
      unfold sloperef3_Parse.l0
      repeat' first
      | (with_reducible exact ih0 _ _ _ _)
      | (with_reducible exact ih1 _ _ _ _ _ _ _ _)
      | (with_reducible exact sloperef3_Of.mono _ _)
      | (with_reducible exact sloperef3_form.mono _ _)
      | (with_reducible exact LeO.refl _)
      | (with_reducible exact LeO.none _)
      | (with_reducible refine LeO.ite ?_ ?_)
      | (with_reducible refine LeO.bind ?_ (fun _ => ?_))
      | exact ih0 _ _ _ _
      | exact ih1 _ _ _ _ _ _ _ _
      | exact sloperef3_Of.mono _ _
      | exact sloperef3_form.mono _ _
      | exact LeO.none _
      | refine LeO.ite ?_ ?_
      | refine LeO.bind ?_ (fun _ => ?_)
    · intro y0 y1 y2 y3 y4 y5 y6 y7
      unfold sloperef3_Parse.l1
      repeat' first
      | (with_reducible exact ih0 _ _ _ _)
      | (with_reducible exact ih1 _ _ _ _ _ _ _ _)
      | (with_reducible exact sloperef3_Of.mono _ _)
      | (with_reducible exact sloperef3_form.mono _ _)
      | (with_reducible exact LeO.refl _)
      | (with_reducible exact LeO.none _)
      | (with_reducible refine LeO.ite ?_ ?_)
      | (with_reducible refine LeO.bind ?_ (fun _ => ?_))
      | exact ih0 _ _ _ _
      | exact ih1 _ _ _ _ _ _ _ _
      | exact sloperef3_Of.mono _ _
      | exact sloperef3_form.mono _ _
      | exact LeO.none _
      | refine LeO.ite ?_ ?_
      | refine LeO.bind ?_ (fun _ => ?_)
theorem sloperef3_Parse.mono : ∀ a0 k, LeO (sloperef3_Parse.f k a0) (sloperef3_Parse.f (k + 1) a0) := by
  intro a0 k
  obtain ⟨ih0, ih1⟩ := sloperef3_Parse.mono_l k
  unfold sloperef3_Parse.f
  repeat' first
      | (with_reducible exact ih0 _ _ _ _)
      | (with_reducible exact ih1 _ _ _ _ _ _ _ _)
      | (with_reducible exact sloperef3_Of.mono _ _)
      | (with_reducible exact sloperef3_form.mono _ _)
      | (with_reducible exact LeO.refl _)
      | (with_reducible exact LeO.none _)
      | (with_reducible refine LeO.ite ?_ ?_)
      | (with_reducible refine LeO.bind ?_ (fun _ => ?_))
      | exact ih0 _ _ _ _
      | exact ih1 _ _ _ _ _ _ _ _
      | exact sloperef3_Of.mono _ _
      | exact sloperef3_form.mono _ _
      | exact LeO.none _
      | refine LeO.ite ?_ ?_
      | refine LeO.bind ?_ (fun _ => ?_)
def sloperef3_Parse.T17 : Bool × List (List Nat × List Nat) := (true, [([], []), ([0], [0]), ([], []), ([], []), ([3], [3]), ([2, 4], [2, 4]), ([5], [5]), ([6], [6]), ([1, 7], [1, 7])])
def sloperef3_Parse.B17 : List Nat := [0, 1, 0, 0, 8, 28, 60, 124, 255]
theorem sloperef3_Parse.tab17 : rtab .any (opsOf Try.f36 17) = sloperef3_Parse.T17 := by kernel_rfl
theorem sloperef3_Parse.bits17 : waitsOk sloperef3_Parse.T17.2 sloperef3_Parse.B17 = true := by kernel_rfl
def sloperef3_Parse.T23 : Bool × List (List Nat × List Nat) := (true, [([], []), ([0], [0]), ([1], [1]), ([2], [2]), ([3, 2], [2, 3]), ([2], [2]), ([2], [2]), ([6, 2], [2, 6]), ([5, 7, 2], [2, 5, 7]), ([8, 2], [2, 8]), ([9, 2], [2, 9]), ([10, 2], [2, 10]), ([4, 11, 2], [2, 4, 11]), ([2, 12], [2, 12])])
def sloperef3_Parse.B23 : List Nat := [0, 1, 3, 7, 15, 7, 7, 71, 231, 487, 999, 2023, 4095, 8191]
theorem sloperef3_Parse.tab23 : rtab .any (opsOf Try.f36 23) = sloperef3_Parse.T23 := by kernel_rfl
theorem sloperef3_Parse.bits23 : waitsOk sloperef3_Parse.T23.2 sloperef3_Parse.B23 = true := by kernel_rfl
end Go.Proofs.Ytjmkhdhffmlhiaa.PAll
end
section
namespace Go.Proofs.Ytjmkhdhffmlhiaa.PAll
set_option linter.unusedVariables false
set_option linter.unusedSimpArgs false
open Go.RowKit Go.Proofs.YtjmkhdhffmlhiaaW.PrintWords Go.Proofs.YtjmkhdhffmlhiaaW.PrintLast Go.Proofs.YtjmkhdhffmlhiaaW.PrintMore
def fl (n : Nat) (f : Nat → Bool) : List Bool := (List.range n).map f
theorem fl_len (n : Nat) (f : Nat → Bool) : (fl n f).length = n := by simp [fl]
theorem fl_congr {n : Nat} {f g : Nat → Bool} (h : ∀ e, e < n → f e = g e) : fl n f = fl n g := by
  unfold fl
  exact List.map_congr_left fun a ha => h a (List.mem_range.1 ha)
theorem fl_none (n : Nat) : List.replicate n false = fl n fun _ => false := by
  unfold fl
  rw [List.map_const', List.length_range]
theorem fl_put (n : Nat) (f : Nat → Bool) (i : Nat) : (fl n f).set i true = fl n fun e => f e || decide (e = i) := by
  apply List.ext_getElem
  · simp [fl]
  · intro j h1 h2
    simp only [fl, List.length_map, List.length_range] at h2
    rw [List.getElem_set]
    by_cases h : i = j
    · subst h
      simp [fl]
    · rw [if_neg h]
      have : decide (j = i) = false := decide_eq_false (fun e => h e.symm)
      simp [fl, this]
theorem of_fl {n : Nat} (hn : n ≤ 4096) (f : Nat → Bool) : ∃ ws, Is n f ws ∧ Ev (fun k => sloperef3_Of.f k (fl n f)) ((n : Int), ws) := by
  obtain ⟨ws, h1, h2⟩ := Of_eq (fl n f) (by rw [fl_len]; exact hn)
  rw [fl_len] at h1 h2
  refine ⟨ws, h1.congr fun e he => ?_, h2⟩
  simp [fl, List.getD, he]
theorem rdY {l : List S100} {a b : List S100} {y : S100} (h : l = a ++ y :: b) {i : Int} (hi : i = (a.length : Int)) : rd_T100 l i = y := by
  subst h hi
  unfold rd_T100
  simp [List.getD]
theorem none_is : sloperef3_none.f = some (0, []) := rfl
theorem fill_l1 {n : Nat} (hn : n ≤ 4096) {v : Nat} (hv : v < n) (Y : List S100) (i a : Int) (b : Int) (r : Int × List Int × Int × Int) : ∀ (d e : Nat) (p : Nat → Bool), e + d = v →
    Ev (fun k => sloperef3_Parse.l0 k Y (n : Int) (fl n fun j => p j || (decide (e ≤ j) && decide (j ≤ v))) (wrap64 (i + 1))) r → Ev (fun k => sloperef3_Parse.l1 k Y (n : Int) (fl n p) i (e : Int) (v : Int) a b) r
  | 0, e, p, h, hr => by
    refine Ev.step (fun k => ?_) hr
    rw [sloperef3_Parse.l1, if_neg (by omega), if_pos (by omega), fl_len, if_pos (by omega), Int.toNat_natCast, fl_put]
    congr 1
    refine fl_congr fun j _ => ?_
    congr 1
    by_cases hj : j = v
    · subst hj
      simp
      omega
    · rw [decide_eq_false hj]
      symm
      rw [Bool.and_eq_false_iff, decide_eq_false_iff_not, decide_eq_false_iff_not]
      omega
  | d + 1, e, p, h, hr => by
    refine Ev.step (fun k => ?_) (fill_l1 hn hv Y i a b r d (e + 1) (fun j => p j || decide (j = e)) (by omega) ?_)
    · rw [sloperef3_Parse.l1, if_pos (by omega), if_pos (by omega), fl_len, if_pos (by omega), Int.toNat_natCast, fl_put, show wrap64 ((e : Int) + 1) = ((e + 1 : Nat) : Int) from w64_id (by omega) (by omega)]
    · refine Ev.congr (fun k => ?_) hr
      congr 1
      refine fl_congr fun j _ => ?_
      rw [Bool.or_assoc]
      congr 1
      by_cases hj : j = e
      · subst hj
        simp
        omega
      · rw [decide_eq_false hj, Bool.false_or]
        congr 1
        apply decide_eq_decide.2
        omega
theorem RelV.small {a b : Int} (h : RelV a b) {n : Nat} (hn : n ≤ 4096) : (a < (n : Int) ↔ b < (n : Int)) ∧ (b < (n : Int) → a = b) := by
  unfold RelV at h
  omega
theorem pl_go {n : Nat} (hn : n ≤ 4096) : ∀ (r : List S95) (rr pre : List S100) (y' : S100) (Y : List S100) (p : Nat → Bool) (ah : Int), Y = (pre ++ [y']) ++ rr → Y.length < 1000000 → LikeN y'.f2 r rr → (y'.f2 = 45 → ah = y'.f0 ∧ 0 ≤ ah) → (0 < pre.length → ah = y'.f0 ∧ 0 ≤ ah ∧ ah < (n : Int)) → (pre.length = 0 → ah = -2) →
    (∀ q, plaw n r p ah = .inl q → ∃ ws, Is n q ws ∧ Ev (fun k => sloperef3_Parse.l0 k Y (n : Int) (fl n p) ((pre.length + 1 : Nat) : Int)) ((n : Int), ws, 0, 0)) ∧
    (∀ a c, plaw n r p ah = .inr (a, c) → Ev (fun k => sloperef3_Parse.l0 k Y (n : Int) (fl n p) ((pre.length + 1 : Nat) : Int)) (0, [], a, c))
  | [], [], pre, y', Y, p, ah, hY, hl, hL, h1, h2, h3 => by
    have hlen : Y.length = pre.length + 1 := by rw [hY]; simp
    refine ⟨fun q hq => ?_, fun a c hq => ?_⟩
    · unfold plaw at hq
      injection hq with hq
      subst hq
      obtain ⟨ws, g1, g2⟩ := of_fl hn p
      refine ⟨ws, g1, Ev.step (f := fun k => (sloperef3_Of.f k (fl n p)).bind fun b => some (b.1, b.2, 0, 0)) (fun k => ?_) (Ev.bind g2 (Ev.now _))⟩
      rw [sloperef3_Parse.l0, if_neg (by omega)]
    · unfold plaw at hq
      cases hq
  | x :: r, y :: rr, pre, y', Y, p, ah, hY, hl, hL, h1, h2, h3 => by
    obtain ⟨l1, l2, l3, l4⟩ := hL
    have hlen : Y.length = pre.length + 2 + rr.length := by rw [hY]; simp; omega
    have hi0 : (0 : Int) ≤ ((pre.length + 1 : Nat) : Int) := by omega
    have hi1 : ((pre.length + 1 : Nat) : Int) < (Y.length : Int) := by omega
    have hw : wrap64 (((pre.length + 1 : Nat) : Int) - 1) = (pre.length : Int) := by rw [w64_id (by omega) (by omega)]; omega
    have hw2 : wrap64 (((pre.length + 1 : Nat) : Int) + 1) = ((pre.length + 1 + 1 : Nat) : Int) := by rw [w64_id (by omega) (by omega)]; omega
    have ry : rd_T100 Y ((pre.length + 1 : Nat) : Int) = y := rdY (a := pre ++ [y']) hY (by simp)
    have ry' : rd_T100 Y (pre.length : Int) = y' := rdY (a := pre) (b := y :: rr) (by rw [hY, List.append_assoc]; rfl) rfl
    have hx0 : 0 ≤ x.f0 := l1.1
    have hy0 : 0 ≤ y.f0 := l1.2.2.1
    obtain ⟨s1, s2⟩ := l1.small hn
    have hstep : ∀ k, sloperef3_Parse.l0 (k + 1) Y (n : Int) (fl n p) ((pre.length + 1 : Nat) : Int) =
        if y.f0 ≥ (n : Int) then some (0, [], y.f1, 62) else if y'.f2 = 45 then (if y.f0 ≤ y'.f0 then some (0, [], y.f1, 1) else sloperef3_Parse.l1 k Y (n : Int) (fl n p) ((pre.length + 1 : Nat) : Int) y'.f0 y.f0 y.f1 y.f2)
        else if ((pre.length + 1 : Nat) : Int) > 1 then (if y.f0 < wrap64 (y'.f0 + 2) then some (0, [], y.f1, 1) else sloperef3_Parse.l0 k Y (n : Int) ((fl n p).set y.f0.toNat true) ((pre.length + 1 + 1 : Nat) : Int)) else sloperef3_Parse.l0 k Y (n : Int) ((fl n p).set y.f0.toNat true) ((pre.length + 1 + 1 : Nat) : Int) := fun k => by
      rw [sloperef3_Parse.l0, if_pos hi1, if_pos hi0, ry, hw, ry', none_is, fl_len, hw2, if_pos (show (0 : Int) ≤ (pre.length : Int) by omega), if_pos (show (pre.length : Int) < (Y.length : Int) by omega)]
      simp only [Option.bind_some]
      by_cases hy : y.f0 ≥ (n : Int)
      · rw [if_pos hy, if_pos hy]
      · rw [if_neg hy, if_neg hy, if_pos hy0, if_pos (show y.f0 < (n : Int) by omega)]
    have next : ∀ (q0 : Nat → Bool) (v : Nat), y.f0 = (v : Int) → v < n →
        (∀ q, plaw n r q0 (v : Int) = .inl q → ∃ ws, Is n q ws ∧ Ev (fun k => sloperef3_Parse.l0 k Y (n : Int) (fl n q0) ((pre.length + 1 + 1 : Nat) : Int)) ((n : Int), ws, 0, 0)) ∧
        (∀ a c, plaw n r q0 (v : Int) = .inr (a, c) → Ev (fun k => sloperef3_Parse.l0 k Y (n : Int) (fl n q0) ((pre.length + 1 + 1 : Nat) : Int)) (0, [], a, c)) := fun q0 v hv hvn => by
      have := pl_go hn r rr (pre ++ [y']) y Y q0 (v : Int) (by rw [hY]; simp) hl l4 (fun _ => ⟨hv.symm, by omega⟩) (fun _ => ⟨hv.symm, by omega, by omega⟩) (fun h => by simp at h)
      simpa using this
    unfold plaw
    by_cases hy : y.f0 ≥ (n : Int)
    · rw [if_neg (fun h => by have := s1.1 h.2; omega)]
      refine ⟨fun q hq => (by cases hq), fun a c hq => ?_⟩
      injection hq with hq
      injection hq with e1 e2
      subst e1 e2
      refine Ev.step (f := fun _ => some (0, [], x.f1, 62)) (fun k => ?_) (Ev.now _)
      rw [hstep, if_pos hy, l2]
    · have hxy := s2 (by omega)
      obtain ⟨v, hv⟩ : ∃ v : Nat, y.f0 = (v : Int) := ⟨y.f0.toNat, by omega⟩
      have hvn : v < n := by omega
      rw [if_pos ⟨hx0, by omega⟩]
      by_cases h45 : y'.f2 = 45
      · obtain ⟨k1, k2⟩ := h1 h45
        have hx2 : x.f2 = true := l3.2 h45
        rw [hx2, if_pos rfl, if_pos rfl]
        by_cases hlo : x.f0 < ah + 1
        · rw [if_pos hlo]
          refine ⟨fun q hq => (by cases hq), fun a c hq => ?_⟩
          injection hq with hq
          injection hq with e1 e2
          subst e1 e2
          refine Ev.step (f := fun _ => some (0, [], x.f1, 1)) (fun k => ?_) (Ev.now _)
          rw [hstep, if_neg hy, if_pos h45, if_pos (by omega), l2]
        · rw [if_neg hlo]
          obtain ⟨e, he⟩ : ∃ e : Nat, ah = (e : Int) := ⟨ah.toNat, by omega⟩
          have hq : (fun d : Nat => p d || (decide (ah ≤ (d : Int)) && decide ((d : Int) ≤ x.f0))) = fun d => p d || (decide (e ≤ d) && decide (d ≤ v)) := by
            funext d
            rw [he, hxy, hv]
            simp only [Int.ofNat_le]
          rw [hq, hxy, hv]
          have hgo : ∀ z, Ev (fun k => sloperef3_Parse.l0 k Y (n : Int) (fl n fun d => p d || (decide (e ≤ d) && decide (d ≤ v))) ((pre.length + 1 + 1 : Nat) : Int)) z → Ev (fun k => sloperef3_Parse.l0 k Y (n : Int) (fl n p) ((pre.length + 1 : Nat) : Int)) z := fun z hz => by
            refine Ev.step (f := fun k => sloperef3_Parse.l1 k Y (n : Int) (fl n p) ((pre.length + 1 : Nat) : Int) (e : Int) (v : Int) y.f1 y.f2) (fun k => ?_) (fill_l1 hn hvn Y _ _ _ z (v - e) e p (by omega) ?_)
            · rw [hstep, if_neg hy, if_pos h45, if_neg (by omega), hv, ← k1, he]
            · rw [hw2]
              exact hz
          obtain ⟨n1, n2⟩ := next _ v hv hvn
          exact ⟨fun q hq => by obtain ⟨ws, g1, g2⟩ := n1 q hq; exact ⟨ws, g1, hgo _ g2⟩, fun a c hq => hgo _ (n2 a c hq)⟩
      · have hx2 : x.f2 = false := by
          cases hx : x.f2 with
          | false => rfl
          | true => exact absurd (l3.1 hx) h45
        rw [hx2, if_neg (show ¬ (false = true) by decide), if_neg (show ¬ (false = true) by decide)]
        by_cases hlo : x.f0 < ah + 2
        · rw [if_pos hlo]
          refine ⟨fun q hq => (by cases hq), fun a c hq => ?_⟩
          injection hq with hq
          injection hq with e1 e2
          subst e1 e2
          have hp : 0 < pre.length := Nat.pos_of_ne_zero fun h => by have := h3 h; omega
          obtain ⟨k1, k2, k3⟩ := h2 hp
          refine Ev.step (f := fun _ => some (0, [], x.f1, 1)) (fun k => ?_) (Ev.now _)
          rw [hstep, if_neg hy, if_neg h45, if_pos (by omega), if_pos (by rw [w64_id (by omega) (by omega)]; omega), l2]
        · rw [if_neg hlo]
          have hq : (fun d : Nat => p d || (decide (x.f0 ≤ (d : Int)) && decide ((d : Int) ≤ x.f0))) = fun d => p d || decide (d = v) := by
            funext d
            rw [hxy, hv]
            congr 1
            by_cases hd : d = v
            · subst hd; simp
            · rw [decide_eq_false hd, Bool.and_eq_false_iff, decide_eq_false_iff_not, decide_eq_false_iff_not]
              omega
          rw [hq, hxy, hv]
          have hgo : ∀ z, Ev (fun k => sloperef3_Parse.l0 k Y (n : Int) (fl n fun d => p d || decide (d = v)) ((pre.length + 1 + 1 : Nat) : Int)) z → Ev (fun k => sloperef3_Parse.l0 k Y (n : Int) (fl n p) ((pre.length + 1 : Nat) : Int)) z := fun z hz => by
            refine Ev.step (fun k => ?_) hz
            rw [hstep, if_neg hy, if_neg h45, hv, Int.toNat_natCast, fl_put]
            by_cases hp : ((pre.length + 1 : Nat) : Int) > 1
            · obtain ⟨k1, k2, k3⟩ := h2 (by omega)
              rw [if_pos hp, if_neg (by rw [w64_id (by omega) (by omega)]; omega)]
            · rw [if_neg hp]
          obtain ⟨n1, n2⟩ := next _ v hv hvn
          exact ⟨fun q hq => by obtain ⟨ws, g1, g2⟩ := n1 q hq; exact ⟨ws, g1, hgo _ g2⟩, fun a c hq => hgo _ (n2 a c hq)⟩
  | [], _ :: _, _, _, _, _, _, _, _, hL, _, _, _ => hL.elim
  | _ :: _, [], _, _, _, _, _, _, _, hL, _, _, _ => hL.elim
theorem refParse_says (t : ByteArray) : ∃ r, ParseSays t r ∧ Ev (fun k => sloperef3_Parse.f k t) r := by
  by_cases hz : 65536 < t.size
  · refine ⟨(0, [], 65536, 4), ?_, Ev.const fun k => ?_⟩
    · unfold ParseSays
      rw [if_pos hz]
    · unfold sloperef3_Parse.f
      rw [if_pos (by omega), none_is]
      rfl
  · have hs : t.size ≤ 65536 := by omega
    obtain ⟨R, h1, h2, h3⟩ := form_says hs
    by_cases hq : 0 ≤ (nums t).2
    · refine ⟨(0, [], (nums t).2, 5), ?_, ?_⟩
      · unfold ParseSays
        rw [if_neg hz, if_pos hq]
      · have e := h2 hq
        have h : Ev (fun k => (sloperef3_form.f k t).bind fun b => if b.2 ≥ 0 then sloperef3_none.f.bind fun c => some (c.1, c.2, b.2, 5) else
            (if 0 < (b.1.length : Int) then ((sloperef3_sized.f ((rd_T100 b.1 0).f0)).bind fun t115 => (if t115 = true then (if 0 ≤ ((rd_T100 b.1 0).f0) then (if ((rd_T100 b.1 0).f0 : Int).toNat ≤ 281474976710656 then (sloperef3_Parse.l0 k b.1 ((rd_T100 b.1 0).f0) (List.replicate ((rd_T100 b.1 0).f0 : Int).toNat false) 1) else (none)) else (none)) else ((sloperef3_none.f).bind fun bt116 => (some (bt116.1, bt116.2, 0, 60))))) else (none))) (0, [], (nums t).2, 5) := by
          refine Ev.bind h1 (Ev.const fun k => ?_)
          rw [if_pos (by omega), none_is, e]
          rfl
        refine Ev.congr (fun k => ?_) h
        unfold sloperef3_Parse.f
        rw [if_neg (by omega)]
    · obtain ⟨q1, x, r, y, rr, q2, q3, q4, q5, q6⟩ := h3 (by omega)
      obtain ⟨R1, R2⟩ := R
      simp only at q1 q3 h1
      subst q1 q3
      obtain ⟨x0, l, hn, hl, hf⟩ := nums_ok t (by omega)
      rw [hn] at q2
      injection q2 with q7 q8
      obtain rfl : x = x0 := q7.symm
      obtain rfl : r = l := q8.symm
      have hlen : ∀ (r : List S95) (rr : List S100) (b : Int), LikeN b r rr → rr.length = r.length := by
        intro r
        induction r with
        | nil => intro rr b h; cases rr with | nil => rfl | cons _ _ => exact h.elim
        | cons x r ih => intro rr b h; cases rr with | nil => exact h.elim | cons y rr => rw [List.length_cons, List.length_cons, ih rr y.f2 h.2.2.2]
      have hl2 := hlen _ _ _ q6
      have hr0 : rd_T100 (y :: rr) 0 = y := rfl
      have hy0 : 0 ≤ y.f0 := q4.2.2.1
      have hmain : ∀ z, Ev (fun k => (sloperef3_sized.f y.f0).bind fun t115 => (if t115 = true then (if 0 ≤ y.f0 then (if (y.f0 : Int).toNat ≤ 281474976710656 then (sloperef3_Parse.l0 k (y :: rr) y.f0 (List.replicate (y.f0 : Int).toNat false) 1) else (none)) else (none)) else ((sloperef3_none.f).bind fun bt116 => (some (bt116.1, bt116.2, 0, 60))))) z → Ev (fun k => sloperef3_Parse.f k t) z := fun z hz2 => by
        have h : Ev (fun k => (sloperef3_form.f k t).bind fun b => if b.2 ≥ 0 then sloperef3_none.f.bind fun c => some (c.1, c.2, b.2, 5) else
            (if 0 < (b.1.length : Int) then ((sloperef3_sized.f ((rd_T100 b.1 0).f0)).bind fun t115 => (if t115 = true then (if 0 ≤ ((rd_T100 b.1 0).f0) then (if ((rd_T100 b.1 0).f0 : Int).toNat ≤ 281474976710656 then (sloperef3_Parse.l0 k b.1 ((rd_T100 b.1 0).f0) (List.replicate ((rd_T100 b.1 0).f0 : Int).toNat false) 1) else (none)) else (none)) else ((sloperef3_none.f).bind fun bt116 => (some (bt116.1, bt116.2, 0, 60))))) else (none))) z := by
          refine Ev.bind h1 (Ev.congr (fun k => ?_) hz2)
          rw [if_neg (show ¬ ((-1 : Int) ≥ 0) by decide), if_pos (by simp only [List.length_cons]; omega), hr0]
        refine Ev.congr (fun k => ?_) h
        unfold sloperef3_Parse.f
        rw [if_neg (by omega)]
      by_cases hx : 0 ≤ x.f0 ∧ x.f0 ≤ 4096
      · have hxy : x.f0 = y.f0 := by
          rcases q4.2.2.2.2 with h | ⟨h, _⟩
          · exact h
          · exact absurd hx.2 (by clear q5; omega)
        obtain ⟨n, hn0⟩ : ∃ n : Nat, y.f0 = (n : Int) := ⟨y.f0.toNat, by omega⟩
        have hn4 : n ≤ 4096 := by omega
        have hgo := pl_go hn4 r rr [] y (y :: rr) (fun _ => false) (-2) rfl (by simp only [List.length_cons]; omega) q6 (fun h => absurd h q5) (fun h => by simp at h) (fun _ => rfl)
        have hP : ∀ z, Ev (fun k => sloperef3_Parse.l0 k (y :: rr) (n : Int) (fl n fun _ => false) 1) z → Ev (fun k => sloperef3_Parse.f k t) z := fun z hz2 => by
          refine hmain z (Ev.congr (fun k => ?_) hz2)
          rw [hn0, show sloperef3_sized.f (n : Int) = some true from by unfold sloperef3_sized.f; rw [if_pos (by omega)]; simp; omega, Option.bind_some, if_pos rfl, if_pos (by omega), if_pos (by omega), Int.toNat_natCast, fl_none]
        cases hp : plaw n r (fun _ => false) (-2) with
        | inl q =>
          obtain ⟨ws, g1, g2⟩ := hgo.1 q hp
          refine ⟨((n : Int), ws, 0, 0), ?_, hP _ g2⟩
          unfold ParseSays
          rw [if_neg hz, if_neg hq]
          exact ⟨x, r, hn, .inr ⟨n, by omega, hn4, .inl ⟨q, ws, hp, g1, rfl⟩⟩⟩
        | inr ac =>
          obtain ⟨a, c⟩ := ac
          refine ⟨(0, [], a, c), ?_, hP _ (hgo.2 a c hp)⟩
          unfold ParseSays
          rw [if_neg hz, if_neg hq]
          exact ⟨x, r, hn, .inr ⟨n, by omega, hn4, .inr ⟨a, c, hp, rfl⟩⟩⟩
      · refine ⟨(0, [], 0, 60), ?_, hmain _ (Ev.const fun k => ?_)⟩
        · unfold ParseSays
          rw [if_neg hz, if_neg hq]
          exact ⟨x, r, hn, .inl ⟨hx, rfl⟩⟩
        · have : sloperef3_sized.f y.f0 = some false := by
            unfold RelV at q4
            unfold sloperef3_sized.f
            rw [if_pos (by omega)]
            simp
            omega
          rw [this, Option.bind_some, if_neg (by decide), none_is]
          rfl
end Go.Proofs.Ytjmkhdhffmlhiaa.PAll
end
