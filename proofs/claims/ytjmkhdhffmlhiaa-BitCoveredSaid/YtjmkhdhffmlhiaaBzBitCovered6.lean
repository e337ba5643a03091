import Derived.Test.YtjmkhdhffmlhiaaBzBitCovered2
import Derived.Test.YtjmkhdhffmlhiaaBzBitCovered5
import Derived.Test.YtjmkhdhffmlhiaaBzBitCovered3
import Derived.Test.YtjmkhdhffmlhiaaBzBitCovered4
section
namespace Go.Proofs.Ytjmkhdhffmlhiaa.PAll
open Go.RowKit Go.Proofs.YtjmkhdhffmlhiaaW.PrintWords Go.Proofs.YtjmkhdhffmlhiaaW.PrintLast Go.Proofs.YtjmkhdhffmlhiaaW.PrintMore
attribute [local go_sem] max2_int min2_int max_two min_two max_three min_three max_four min_four w64_u8 w64_mod256   -- for this text's walks alone
set_option linter.unusedVariables false
set_option linter.unusedSimpArgs false
mutual
def slopelaw3_BitCovered.j0 : Nat → List Int → Int → Bool → Int → List (S26) → Int → List Int → Option (Bool)
  | 0, _, _, _, _, _, _, _ => none
  | k + 1, x5, x6, x37, x102000, x102001, x103000, x103001 => if x37 = true then ((slopelaw3_num.f x6).bind fun t110 => (if t110 = 0 then (some false) else (some ((x5.length : Int) == 0)))) else ((bitset_Union.f k x102000 x102001).bind fun bt111 => ((slopelaw3_num.f bt111.2.2).bind fun t117 => (if t117 = 0 then ((bitset_Subset.f k x103000 x103001 bt111.1 bt111.2.1).bind fun t118 => ((slopelaw3_num.f x6).bind fun t119 => (slopelaw3_BitCovered.j1 k x5 x6 (t118 != (t119 == 0)) x102000 x102001 x103000 x103001))) else (slopelaw3_BitCovered.j1 k x5 x6 true x102000 x102001 x103000 x103001))))
def slopelaw3_BitCovered.j1 : Nat → List Int → Int → Bool → Int → List (S26) → Int → List Int → Option (Bool)
  | 0, _, _, _, _, _, _, _ => none
  | k + 1, x5, x6, x65, x102000, x102001, x103000, x103001 => if x65 = true then (some false) else ((slopelaw3_num.f x6).bind fun t120 => (if t120 = 0 then (slopelaw3_BitCovered.l0 k x5 (wrap64 (x102000 + 1)) 0 x102000 x102001 x103000 x103001) else ((slopelaw3_num.f x6).bind fun t121 => (if t121 = 321 then (some ((x5.length : Int) == 0)) else (some false)))))
def slopelaw3_BitCovered.l0 : Nat → List Int → Int → Int → Int → List (S26) → Int → List Int → Option (Bool)
  | 0, _, _, _, _, _, _, _ => none
  | k + 1, x5, x10, x11, x102000, x102001, x123000, x123001 => if x11 < (x5.length : Int) then (if 0 ≤ x11 then (if (rd x5 x11) < 0 then (slopelaw3_BitCovered.j3 k x5 x10 x11 true x102000 x102001 x123000 x123001) else (slopelaw3_BitCovered.j3 k x5 x10 x11 (decide ((rd x5 x11) ≥ (x102001.length : Int))) x102000 x102001 x123000 x123001)) else (none)) else ((bitset_Count.f k x123000 x123001).bind fun t123 => (some (t123 == 0)))
def slopelaw3_BitCovered.j3 : Nat → List Int → Int → Int → Bool → Int → List (S26) → Int → List Int → Option (Bool)
  | 0, _, _, _, _, _, _, _, _ => none
  | k + 1, x5, x10, x11, x101, x102000, x102001, x123000, x123001 => if x101 = true then (some false) else (if 0 ≤ x11 then (if x11 < (x5.length : Int) then (if 0 ≤ (rd x5 x11) then (if (rd x5 x11) < (x102001.length : Int) then ((bitset_Minus.f k x123000 x123001 ((rd_T26 x102001 (rd x5 x11)).f0) ((rd_T26 x102001 (rd x5 x11)).f1)).bind fun bt128 => ((bitset_Count.f k x123000 x123001).bind fun t134 => ((bitset_Count.f k bt128.1 bt128.2.1).bind fun t135 => ((slopelaw3_num.f bt128.2.2).bind fun t136 => (if t136 = 0 then (if (wrap64 (t134 - t135)) < 1 then (some false) else (if (wrap64 (t134 - t135)) > x10 then (some false) else (slopelaw3_BitCovered.l0 k x5 (wrap64 (t134 - t135)) (wrap64 (x11 + 1)) x102000 x102001 bt128.1 bt128.2.1))) else (some false)))))) else (none)) else (none)) else (none)) else (none))
end
def slopelaw3_BitCovered.f (k : Nat) (a0_0 : Int) (l0_1 : List (S26)) (a1_0 : Int) (l1_1 : List Int) : Option (Bool) := (slopelaw3_alive.f k).bind fun t103 => (if t103 = true then ((bitset_Cover.f k a0_0 l0_1 a1_0 l1_1).bind fun bt104 => ((sloperef3_MayTable.f k a0_0 l0_1).bind fun t108 => (if t108 = true then ((sloperef3_May.f k a1_0 l1_1).bind fun t109 => (if t109 = true then (slopelaw3_BitCovered.j0 k bt104.1 bt104.2 (a0_0 != a1_0) a0_0 l0_1 a1_0 l1_1) else (slopelaw3_BitCovered.j0 k bt104.1 bt104.2 true a0_0 l0_1 a1_0 l1_1))) else (slopelaw3_BitCovered.j0 k bt104.1 bt104.2 true a0_0 l0_1 a1_0 l1_1)))) else (some false))
def slopelaw3_BitCovered.T16 : Bool × List (List Nat × List Nat) := (true, [([], []), ([], []), ([0, 1], [0, 1]), ([2], [2]), ([3], [3]), ([4], [4]), ([5], [5]), ([5], [5]), ([6, 7, 5], [5, 6, 7]), ([8, 5], [5, 8]), ([5], [5]), ([10, 5], [5, 10]), ([11, 5], [5, 11]), ([9, 12, 5], [5, 9, 12]), ([5, 13], [5, 13])])
def slopelaw3_BitCovered.B16 : List Nat := [0, 0, 3, 7, 15, 31, 63, 63, 255, 511, 63, 1087, 3135, 8191, 16383]
theorem slopelaw3_BitCovered.tab16 : rtab .any (opsOf Try.f11 16) = slopelaw3_BitCovered.T16 := by kernel_rfl
theorem slopelaw3_BitCovered.bits16 : waitsOk slopelaw3_BitCovered.T16.2 slopelaw3_BitCovered.B16 = true := by kernel_rfl
def slopelaw3_BitCovered.T18 : Bool × List (List Nat × List Nat) := (true, [([], []), ([], []), ([1], [1]), ([], []), ([], []), ([3, 4], [3, 4]), ([5], [5]), ([2, 6], [2, 6]), ([7], [7]), ([0, 8], [0, 8]), ([9], [9]), ([10], [10]), ([10], [10]), ([], []), ([13, 11, 9, 0, 1, 2, 3, 4, 5, 6, 7, 8, 9, 10, 11, 13], [11, 13]), ([12, 14, 0, 1, 2, 3, 4, 5, 6, 7, 8, 9, 10, 11, 12, 13, 14], [12])])
def slopelaw3_BitCovered.B18 : List Nat := [0, 0, 2, 0, 0, 24, 56, 126, 254, 511, 1023, 2047, 2047, 0, 12287, 32767]
theorem slopelaw3_BitCovered.tab18 : rtab .any (opsOf Try.f11 18) = slopelaw3_BitCovered.T18 := by kernel_rfl
theorem slopelaw3_BitCovered.bits18 : waitsOk slopelaw3_BitCovered.T18.2 slopelaw3_BitCovered.B18 = true := by kernel_rfl
set_option maxHeartbeats 8000000 in
set_option maxRecDepth 100000 in
theorem slopelaw3_BitCovered.calls (k : Nat) (a0_0 : Int) (A0_1 : Option Addr) (c0_1 : Nat) (l0_1 : List (S26)) (a1_0 : Int) (P1_1_ : Nat → Prop) (A1_1 : Option Addr) (c1_1 : Nat) (l1_1 : List Int) (r : Bool) (w : World) (hr0_1 : Kd.C k26 w A0_1 l0_1.length l0_1) (hc0_1 : l0_1.length ≤ c0_1) (hs1_1 : Kd.V (Kd.int .u64) 82 w w.heap.size (fun k_ => P1_1_ k_) (.slice A1_1 l1_1.length c1_1) l1_1) (hr : r = true) (h : slopelaw3_BitCovered.f k a0_0 l0_1 a1_0 l1_1 = some r) :
    Calls Try.prog 11 #[.agg #[.int .i64 a0_0, .slice A0_1 l0_1.length c0_1], .agg #[.int .i64 a1_0, .slice A1_1 l1_1.length c1_1]] w fun e w' => e = .returned (.bool r) ∧ Below w.heap.size w w' := by
  have hu40 := Try.underlying40
  have hu26 := Try.underlying26
  have HR0_1 := Aside0.mk hr0_1
  have HC0_1 := Aside0.mk hc0_1
  clear hr0_1 hc0_1
  have HO1_1 := Aside0.mk (show Kd.V (Kd.int .u64) 82 w w.heap.size (fun k_ => (P1_1_ k_ ∨ w.heap.size ≤ k_)) (.slice A1_1 l1_1.length c1_1) l1_1 from Kd.V_mono hs1_1 (fun k_ hk => .inl hk))
  have HB := Aside0.mk (Below.refl w.heap.size w)
  have H : ((slopelaw3_alive.f k).bind fun t103 => (if t103 = true then ((bitset_Cover.f k a0_0 l0_1 a1_0 l1_1).bind fun bt104 => ((sloperef3_MayTable.f k a0_0 l0_1).bind fun t108 => (if t108 = true then ((sloperef3_May.f k a1_0 l1_1).bind fun t109 => (if t109 = true then (slopelaw3_BitCovered.j0 k bt104.1 bt104.2 (a0_0 != a1_0) a0_0 l0_1 a1_0 l1_1) else (slopelaw3_BitCovered.j0 k bt104.1 bt104.2 true a0_0 l0_1 a1_0 l1_1))) else (slopelaw3_BitCovered.j0 k bt104.1 bt104.2 true a0_0 l0_1 a1_0 l1_1)))) else (some false))) = some r := h
  clear h
  replace H := Option.bind_eq_some_iff.mp H
  obtain ⟨t103, A30, H⟩ := H
  replace H : (if t103 = true then ((bitset_Cover.f k a0_0 l0_1 a1_0 l1_1).bind fun bt104 => ((sloperef3_MayTable.f k a0_0 l0_1).bind fun t108 => (if t108 = true then ((sloperef3_May.f k a1_0 l1_1).bind fun t109 => (if t109 = true then (slopelaw3_BitCovered.j0 k bt104.1 bt104.2 (a0_0 != a1_0) a0_0 l0_1 a1_0 l1_1) else (slopelaw3_BitCovered.j0 k bt104.1 bt104.2 true a0_0 l0_1 a1_0 l1_1))) else (slopelaw3_BitCovered.j0 k bt104.1 bt104.2 true a0_0 l0_1 a1_0 l1_1)))) else (some false)) = some r := H
  have A3 := Aside0.mk A30
  clear A30
  by_cases c4 : t103 = true
  · subst c4
    have H1 : ((bitset_Cover.f k a0_0 l0_1 a1_0 l1_1).bind fun bt104 => ((sloperef3_MayTable.f k a0_0 l0_1).bind fun t108 => (if t108 = true then ((sloperef3_May.f k a1_0 l1_1).bind fun t109 => (if t109 = true then (slopelaw3_BitCovered.j0 k bt104.1 bt104.2 (a0_0 != a1_0) a0_0 l0_1 a1_0 l1_1) else (slopelaw3_BitCovered.j0 k bt104.1 bt104.2 true a0_0 l0_1 a1_0 l1_1))) else (slopelaw3_BitCovered.j0 k bt104.1 bt104.2 true a0_0 l0_1 a1_0 l1_1)))) = some r := by rw [if_pos rfl] at H; exact H
    clear H
    have H := H1
    clear H1
    replace H := Option.bind_eq_some_iff.mp H
    obtain ⟨⟨t104, t107⟩, A50, H⟩ := H
    replace H : ((sloperef3_MayTable.f k a0_0 l0_1).bind fun t108 => (if t108 = true then ((sloperef3_May.f k a1_0 l1_1).bind fun t109 => (if t109 = true then (slopelaw3_BitCovered.j0 k t104 t107 (a0_0 != a1_0) a0_0 l0_1 a1_0 l1_1) else (slopelaw3_BitCovered.j0 k t104 t107 true a0_0 l0_1 a1_0 l1_1))) else (slopelaw3_BitCovered.j0 k t104 t107 true a0_0 l0_1 a1_0 l1_1))) = some r := H
    have A5 := Aside0.mk A50
    clear A50
    have HC6 := Aside0.mk H
    clear H
    go_enter Try.func11, Try.ntmps11
    go_upto_region 4 with (first | ((with_reducible refine gate_dst (N := 2) rfl ?_); (try (refine gate_guard (by rfl) ?_; dsimp only)); refine box_event ?hg (N := 2) ?hd (cs := #[.int .i64 a0_0, .slice A0_1 l0_1.length c0_1]) (t := 40) ?hr ?_; (case hd => rfl); (case hg => rfl); (case hr => first | (go_simp; done) | (go_simp; rfl)); intro gb101 hg w7 hbox hb; have n0_ := Aside0.mk (Kd.V_below (Kd.V_elderB (by (with_reducible repeat (first | apply Kd.V_alloc | apply Kd.V_drewN | apply Kd.V_drew)); exact HO1_1.out) gb101 (Nat.le_of_eq hg.symm)) hb); have n1_ := Aside0.mk (below_step (by repeat (first | (with_reducible first | exact HB.out | apply below_alloc | apply pw_below_drewN | apply below_drew1) | exact HB.out)) hb); have n2_ := Aside0.mk (hbox); have n3_ := Aside0.mk ((by rw [hg]; exact (below_size (by repeat (first | (with_reducible first | exact HB.out | apply below_alloc | apply pw_below_drewN | apply below_drew1) | exact HB.out))) : w.heap.size ≤ gb101)); have n4_ := Aside0.mk ((by rw [hg]; exact (below_size (by repeat (first | (with_reducible first | exact HB.out | apply below_alloc | apply pw_below_drewN | apply below_drew1) | exact HB.out))) : w.heap.size ≤ gb101)); clear HO1_1; clear HB; have HO1_1 := n0_; have HB := n1_; have BK101 := n2_; have GW101 := n3_; have GE101 := n4_; clear n0_ n1_ n2_ n3_ n4_; clear hb hbox hg) | ((with_reducible refine gate_dst (N := 3) rfl ?_); (try (refine gate_guard (by rfl) ?_; dsimp only)); refine box_event ?hg (N := 3) ?hd (cs := #[.int .i64 a1_0, .slice A1_1 l1_1.length c1_1]) (t := 26) ?hr ?_; (case hd => rfl); (case hg => rfl); (case hr => first | (go_simp; done) | (go_simp; rfl)); intro gb102 hg w8 hbox hb; have n0_ := Aside0.mk (Kd.V_below (Kd.V_elderB (by (with_reducible repeat (first | apply Kd.V_alloc | apply Kd.V_drewN | apply Kd.V_drew)); exact HO1_1.out) gb102 (Nat.le_of_eq hg.symm)) hb); have n1_ := Aside0.mk (blk_below (g := gb101) (o := .cells #[.int .i64 a0_0, .slice A0_1 l0_1.length c0_1] 40 (0, 0)) (by (with_reducible repeat (first | refine blk_drewN ?_ _ | refine blk_drew ?_ | refine blk_alloc ?_ _)); exact BK101.out) hb); have n2_ := Aside0.mk (below_step (by repeat (first | (with_reducible first | exact HB.out | apply below_alloc | apply pw_below_drewN | apply below_drew1 | refine below_set ?_ GE101.out) | exact HB.out)) hb); have n3_ := Aside0.mk (hbox); have n4_ := Aside0.mk ((by rw [hg]; exact (below_size (by repeat (first | (with_reducible first | exact HB.out | apply below_alloc | apply pw_below_drewN | apply below_drew1 | refine below_set ?_ GE101.out) | exact HB.out))) : w.heap.size ≤ gb102)); have n5_ := Aside0.mk ((by rw [hg]; exact (below_size (by repeat (first | (with_reducible first | exact HB.out | apply below_alloc | apply pw_below_drewN | apply below_drew1 | refine below_set ?_ GE101.out) | exact HB.out))) : w.heap.size ≤ gb102)); have n6_ := Aside0.mk ((by rw [hg]; exact Nat.ne_of_lt (blk_lt (g := gb101) (o := .cells #[.int .i64 a0_0, .slice A0_1 l0_1.length c0_1] 40 (0, 0)) (by (with_reducible repeat (first | refine blk_drewN ?_ _ | refine blk_drew ?_ | refine blk_alloc ?_ _)); exact BK101.out)) : gb101 ≠ gb102)); have n7_ := Aside0.mk ((by rw [hg]; exact Nat.ne_of_gt (blk_lt (g := gb101) (o := .cells #[.int .i64 a0_0, .slice A0_1 l0_1.length c0_1] 40 (0, 0)) (by (with_reducible repeat (first | refine blk_drewN ?_ _ | refine blk_drew ?_ | refine blk_alloc ?_ _)); exact BK101.out)) : gb102 ≠ gb101)); clear HO1_1; clear BK101; clear HB; have HO1_1 := n0_; have BK101 := n1_; have HB := n2_; have BK102 := n3_; have GW102 := n4_; have GE102 := n5_; have NB101_102 := n6_; have NB102_101 := n7_; clear n0_ n1_ n2_ n3_ n4_ n5_ n6_ n7_; clear hb hbox hg) | ((with_reducible refine gate_callee (f := 37) rfl ?_); refine goesL_ (some 15) rfl rfl Try.func37 (by kernel_rfl) rfl #[] rfl (by (try simp only [List.map_toArray, List.map_cons, List.map_nil]); first | done | rfl | (simp only [List.length_drop, List.length_take]; rfl)) ?_; (with_reducible refine (slopelaw3_alive.calls k  true _ A3.out).mono ?_); rintro e w9 ⟨rfl, hb⟩; refine ⟨_, rfl, ?_⟩; have n0_ := Aside0.mk (Kd.V_below (by (with_reducible repeat (first | apply Kd.V_alloc | apply Kd.V_drewN | apply Kd.V_drew)); exact HO1_1.out) hb); have n1_ := Aside0.mk (blk_below (g := gb101) (o := .cells #[.int .i64 a0_0, .slice A0_1 l0_1.length c0_1] 40 (0, 0)) (by (with_reducible repeat (first | refine blk_drewN ?_ _ | refine blk_drew ?_ | refine blk_alloc ?_ _)); exact BK101.out) hb); have n2_ := Aside0.mk (blk_below (g := gb102) (o := .cells #[.int .i64 a1_0, .slice A1_1 l1_1.length c1_1] 26 (0, 0)) (by (with_reducible repeat (first | refine blk_drewN ?_ _ | refine blk_drew ?_ | refine blk_alloc ?_ _)); exact BK102.out) hb); have n3_ := Aside0.mk (below_step (by repeat (first | (with_reducible first | exact HB.out | apply below_alloc | apply pw_below_drewN | apply below_drew1 | refine below_set ?_ GE101.out | refine below_set ?_ GE102.out) | exact HB.out)) hb); clear HO1_1; clear BK101; clear BK102; clear HB; have HO1_1 := n0_; have BK101 := n1_; have BK102 := n2_; have HB := n3_; clear n0_ n1_ n2_ n3_; (try clear hb); (try clear hb2); (try clear hk); (try clear hi); have hnb10 := NB101_102.out; have hnc10 := NB102_101.out; have hcz11_0 : w9.cell? ⟨gb101, 0, none⟩ = some (.int .i64 a0_0) := (blk_cell BK101.out 0).trans rfl; have hcz11_1 : w9.cell? ⟨gb101, 1, none⟩ = some (.slice A0_1 l0_1.length c0_1) := (blk_cell BK101.out 1).trans rfl; have hfz11_0 := blk_frozen BK101.out 0; have hfz11_1 := blk_frozen BK101.out 1; have hcz12_0 : w9.cell? ⟨gb102, 0, none⟩ = some (.int .i64 a1_0) := (blk_cell BK102.out 0).trans rfl; have hcz12_1 : w9.cell? ⟨gb102, 1, none⟩ = some (.slice A1_1 l1_1.length c1_1) := (blk_cell BK102.out 1).trans rfl; have hfz12_0 := blk_frozen BK102.out 0; have hfz12_1 := blk_frozen BK102.out 1) | ((with_reducible refine gate_callee (f := 49) rfl ?_); refine goesL_ (some 20) rfl rfl Try.func49 (by kernel_rfl) rfl #[.agg #[.int .i64 a0_0, .slice A0_1 l0_1.length c0_1], .agg #[.int .i64 a1_0, .slice A1_1 l1_1.length c1_1]] rfl (by (try simp only [List.map_toArray, List.map_cons, List.map_nil]); first | done | rfl | (simp only [List.length_drop, List.length_take]; rfl)) ?_; (with_reducible refine (bitset_Cover.calls k a0_0 _ _ l0_1 a1_0 _ _ l1_1 t104 t107 _ ?side1 ?side2 ?side3 ?side4 A5.out).mono ?_); (case side1 => repeat (first | exact (Kd.C_below HR0_1.out HB.out) | (with_reducible refine Kd.C_alloc ?_ _) | (with_reducible refine Kd.C_drewN ?_ _) | (with_reducible refine Kd.C_drew ?_))); (case side2 => exact HC0_1.out); (case side3 => repeat (first | exact (Kd.V_reads' HO1_1.out).2.2 | (with_reducible refine Kd.C_alloc ?_ _) | (with_reducible refine Kd.C_drewN ?_ _) | (with_reducible refine Kd.C_drew ?_))); (case side4 => exact (Kd.V_reads' HO1_1.out).2.1); rintro e w13 ⟨v105, rfl, ho0, hb⟩; refine ⟨_, rfl, ?_⟩; have n0_ := Aside0.mk (Kd.V_elder' (by (with_reducible repeat (first | apply Kd.V_alloc | apply Kd.V_drewN | apply Kd.V_drew)); exact HO1_1.out) (Kd.R_base ho0) hb); have n1_ := Aside0.mk (Kd.R_lower (Kd.R_newM (M := fun k_ => (w.heap.size ≤ k_)) ho0 (below_size (by repeat (first | (with_reducible first | exact HB.out | apply below_alloc | apply pw_below_drewN | apply below_drew1 | refine below_set ?_ GE101.out | refine below_set ?_ GE102.out) | exact HB.out))) (fun k_ h_ => h_)) (below_size (by repeat (first | (with_reducible first | exact HB.out | apply below_alloc | apply pw_below_drewN | apply below_drew1 | refine below_set ?_ GE101.out | refine below_set ?_ GE102.out) | exact HB.out)))); have n2_ := Aside0.mk (blk_below (g := gb101) (o := .cells #[.int .i64 a0_0, .slice A0_1 l0_1.length c0_1] 40 (0, 0)) (by (with_reducible repeat (first | refine blk_drewN ?_ _ | refine blk_drew ?_ | refine blk_alloc ?_ _)); exact BK101.out) hb); have n3_ := Aside0.mk (blk_below (g := gb102) (o := .cells #[.int .i64 a1_0, .slice A1_1 l1_1.length c1_1] 26 (0, 0)) (by (with_reducible repeat (first | refine blk_drewN ?_ _ | refine blk_drew ?_ | refine blk_alloc ?_ _)); exact BK102.out) hb); have n4_ := Aside0.mk (below_step (by repeat (first | (with_reducible first | exact HB.out | apply below_alloc | apply pw_below_drewN | apply below_drew1 | refine below_set ?_ GE101.out | refine below_set ?_ GE102.out) | exact HB.out)) hb); clear HO1_1; clear BK101; clear BK102; clear HB; have HO1_1 := n0_; have HO106 := n1_; have BK101 := n2_; have BK102 := n3_; have HB := n4_; clear n0_ n1_ n2_ n3_ n4_; (try clear hb); (try clear hb2); (try clear hk); (try clear hi); (try clear ho0)))
    (try simp only [Act.put, List.setIfInBounds_toArray, List.set_cons_zero, List.set_cons_succ])
    go_cut [37] (fun v37 wc => ∃ (kq : Nat) (x37_5 : Bool), v37 = .bool x37_5 ∧ Aside0 (slopelaw3_BitCovered.j0 kq t104 t107 x37_5 a0_0 l0_1 a1_0 l1_1 = some r) ∧ Aside0 (kq ≤ k) ∧ Aside0 (Kd.R (Kd.int .i64) 3 wc w.heap.size (fun k_ => (w.heap.size ≤ k_)) v105 t104) ∧ Aside0 (Kd.V (Kd.int .u64) 82 wc w.heap.size (fun k_ => (P1_1_ k_ ∨ w.heap.size ≤ k_) ∧ some k_ ≠ (v105 : Value).ownBlock ∧ k_ ≠ gb101 ∧ k_ ≠ gb102) (.slice A1_1 l1_1.length c1_1) l1_1) ∧ Aside0 (wc.heap[gb101]? = some (.cells #[.int .i64 a0_0, (.slice A0_1 l0_1.length c0_1)] 40 (0, 0))) ∧ Aside0 (wc.heap[gb102]? = some (.cells #[.int .i64 a1_0, (.slice A1_1 l1_1.length c1_1)] 26 (0, 0))) ∧ Aside0 (Below w.heap.size w wc))
    case first =>
      have H := HC6.out
      clear HC6
      replace H := Option.bind_eq_some_iff.mp H
      obtain ⟨t108, A140, H⟩ := H
      replace H : (if t108 = true then ((sloperef3_May.f k a1_0 l1_1).bind fun t109 => (if t109 = true then (slopelaw3_BitCovered.j0 k t104 t107 (a0_0 != a1_0) a0_0 l0_1 a1_0 l1_1) else (slopelaw3_BitCovered.j0 k t104 t107 true a0_0 l0_1 a1_0 l1_1))) else (slopelaw3_BitCovered.j0 k t104 t107 true a0_0 l0_1 a1_0 l1_1)) = some r := H
      have A14 := Aside0.mk A140
      clear A140
      by_cases c15 : t108 = true
      · subst c15
        have H1 : ((sloperef3_May.f k a1_0 l1_1).bind fun t109 => (if t109 = true then (slopelaw3_BitCovered.j0 k t104 t107 (a0_0 != a1_0) a0_0 l0_1 a1_0 l1_1) else (slopelaw3_BitCovered.j0 k t104 t107 true a0_0 l0_1 a1_0 l1_1))) = some r := by rw [if_pos rfl] at H; exact H
        clear H
        have H := H1
        clear H1
        replace H := Option.bind_eq_some_iff.mp H
        obtain ⟨t109, A160, H⟩ := H
        replace H : (if t109 = true then (slopelaw3_BitCovered.j0 k t104 t107 (a0_0 != a1_0) a0_0 l0_1 a1_0 l1_1) else (slopelaw3_BitCovered.j0 k t104 t107 true a0_0 l0_1 a1_0 l1_1)) = some r := H
        have A16 := Aside0.mk A160
        clear A160
        by_cases c17 : t109 = true
        · subst c17
          have H1 : (slopelaw3_BitCovered.j0 k t104 t107 (a0_0 != a1_0) a0_0 l0_1 a1_0 l1_1) = some r := by rw [if_pos rfl] at H; exact H
          clear H
          have H := H1
          clear H1
          have H' := Aside0.mk H
          clear H
          have hnb18 := NB101_102.out
          have hnc18 := NB102_101.out
          have hcz19_0 : w13.cell? ⟨gb101, 0, none⟩ = some (.int .i64 a0_0) := (blk_cell BK101.out 0).trans rfl
          have hcz19_1 : w13.cell? ⟨gb101, 1, none⟩ = some (.slice A0_1 l0_1.length c0_1) := (blk_cell BK101.out 1).trans rfl
          have hfz19_0 := blk_frozen BK101.out 0
          have hfz19_1 := blk_frozen BK101.out 1
          go_wp2_with (first | ((with_reducible refine gate_callee (f := 27) rfl ?_); refine goesL_ (some 24) rfl rfl Try.func27 (by kernel_rfl) rfl #[.agg #[.int .i64 a0_0, .slice A0_1 l0_1.length c0_1]] rfl (by (try simp only [List.map_toArray, List.map_cons, List.map_nil]); first | done | rfl | (simp only [List.length_drop, List.length_take]; rfl)) ?_; (with_reducible refine (sloperef3_MayTable.calls k a0_0 _ _ l0_1 true _ ?side1 ?side2 A14.out).mono ?_); (case side1 => repeat (first | exact (Kd.C_below HR0_1.out HB.out) | (with_reducible refine Kd.C_alloc ?_ _) | (with_reducible refine Kd.C_drewN ?_ _) | (with_reducible refine Kd.C_drew ?_))); (case side2 => exact HC0_1.out); rintro e w20 ⟨rfl, hb⟩; refine ⟨_, rfl, ?_⟩; have n0_ := Aside0.mk (Kd.V_below (by (with_reducible repeat (first | apply Kd.V_alloc | apply Kd.V_drewN | apply Kd.V_drew)); exact HO1_1.out) hb); have n1_ := Aside0.mk (Kd.R_below (by (with_reducible repeat (first | apply Kd.R_alloc | apply Kd.R_drewN | apply Kd.R_drew)); exact HO106.out) hb); have n2_ := Aside0.mk (blk_below (g := gb101) (o := .cells #[.int .i64 a0_0, .slice A0_1 l0_1.length c0_1] 40 (0, 0)) (by (with_reducible repeat (first | refine blk_drewN ?_ _ | refine blk_drew ?_ | refine blk_alloc ?_ _)); exact BK101.out) hb); have n3_ := Aside0.mk (blk_below (g := gb102) (o := .cells #[.int .i64 a1_0, .slice A1_1 l1_1.length c1_1] 26 (0, 0)) (by (with_reducible repeat (first | refine blk_drewN ?_ _ | refine blk_drew ?_ | refine blk_alloc ?_ _)); exact BK102.out) hb); have n4_ := Aside0.mk (below_step (by repeat (first | (with_reducible first | exact HB.out | apply below_alloc | apply pw_below_drewN | apply below_drew1 | refine below_set ?_ GE101.out | refine below_set ?_ GE102.out) | exact HB.out)) hb); clear HO1_1; clear HO106; clear BK101; clear BK102; clear HB; have HO1_1 := n0_; have HO106 := n1_; have BK101 := n2_; have BK102 := n3_; have HB := n4_; clear n0_ n1_ n2_ n3_ n4_; (try clear hb); (try clear hb2); (try clear hk); (try clear hi); have hcz21_0 : w20.cell? ⟨gb102, 0, none⟩ = some (.int .i64 a1_0) := (blk_cell BK102.out 0).trans rfl; have hcz21_1 : w20.cell? ⟨gb102, 1, none⟩ = some (.slice A1_1 l1_1.length c1_1) := (blk_cell BK102.out 1).trans rfl; have hfz21_0 := blk_frozen BK102.out 0; have hfz21_1 := blk_frozen BK102.out 1) | (go_at_call 24; (with_reducible refine (sloperef3_May.calls k a1_0 _ _ l1_1 true _ ?side1 ?side2 A16.out).mono ?_); (case side1 => repeat (first | exact (Kd.V_reads' HO1_1.out).2.2 | (with_reducible refine Kd.C_alloc ?_ _) | (with_reducible refine Kd.C_drewN ?_ _) | (with_reducible refine Kd.C_drew ?_))); (case side2 => exact (Kd.V_reads' HO1_1.out).2.1); rintro e w22 ⟨rfl, hb⟩; have n0_ := Aside0.mk (Kd.V_below (by (with_reducible repeat (first | apply Kd.V_alloc | apply Kd.V_drewN | apply Kd.V_drew)); exact HO1_1.out) hb); have n1_ := Aside0.mk (Kd.R_below (by (with_reducible repeat (first | apply Kd.R_alloc | apply Kd.R_drewN | apply Kd.R_drew)); exact HO106.out) hb); have n2_ := Aside0.mk (blk_below (g := gb101) (o := .cells #[.int .i64 a0_0, .slice A0_1 l0_1.length c0_1] 40 (0, 0)) (by (with_reducible repeat (first | refine blk_drewN ?_ _ | refine blk_drew ?_ | refine blk_alloc ?_ _)); exact BK101.out) hb); have n3_ := Aside0.mk (blk_below (g := gb102) (o := .cells #[.int .i64 a1_0, .slice A1_1 l1_1.length c1_1] 26 (0, 0)) (by (with_reducible repeat (first | refine blk_drewN ?_ _ | refine blk_drew ?_ | refine blk_alloc ?_ _)); exact BK102.out) hb); have n4_ := Aside0.mk (below_step (by repeat (first | (with_reducible first | exact HB.out | apply below_alloc | apply pw_below_drewN | apply below_drew1 | refine below_set ?_ GE101.out | refine below_set ?_ GE102.out) | exact HB.out)) hb); clear HO1_1; clear HO106; clear BK101; clear BK102; clear HB; have HO1_1 := n0_; have HO106 := n1_; have BK101 := n2_; have BK102 := n3_; have HB := n4_; clear n0_ n1_ n2_ n3_ n4_; (try clear hb); (try clear hb2); (try clear hk); (try clear hi); have hcz23_0 : w22.cell? ⟨gb101, 0, none⟩ = some (.int .i64 a0_0) := (blk_cell BK101.out 0).trans rfl; have hcz23_1 : w22.cell? ⟨gb101, 1, none⟩ = some (.slice A0_1 l0_1.length c0_1) := (blk_cell BK101.out 1).trans rfl; have hfz23_0 := blk_frozen BK101.out 0; have hfz23_1 := blk_frozen BK101.out 1; have hcz24_0 : w22.cell? ⟨gb102, 0, none⟩ = some (.int .i64 a1_0) := (blk_cell BK102.out 0).trans rfl; have hcz24_1 : w22.cell? ⟨gb102, 1, none⟩ = some (.slice A1_1 l1_1.length c1_1) := (blk_cell BK102.out 1).trans rfl; have hfz24_0 := blk_frozen BK102.out 0; have hfz24_1 := blk_frozen BK102.out 1))
          go_meet
          case rel => exact ⟨_, ((a0_0 != a1_0)), (by first | rfl | (simp; done) | (simp [*]; done)), H', ⟨by first | omega | exact Nat.le_refl _⟩, ⟨by (with_reducible repeat (first | apply Kd.R_alloc | apply Kd.R_drewN | apply Kd.R_drew)); exact Kd.R_mono HO106.out (fun _ hk => hk.1)⟩, ⟨by (with_reducible repeat (first | apply Kd.V_alloc | apply Kd.V_drewN | apply Kd.V_drew)); exact Kd.V_mono HO1_1.out (fun _ hk => ⟨hk.1.1.1, ⟨hk.2, ⟨hk.1.1.2, hk.1.2⟩⟩⟩)⟩, ⟨by (with_reducible repeat (first | refine blk_drewN ?_ _ | refine blk_drew ?_ | refine blk_alloc ?_ _)); exact BK101.out⟩, ⟨by (with_reducible repeat (first | refine blk_drewN ?_ _ | refine blk_drew ?_ | refine blk_alloc ?_ _)); exact BK102.out⟩, ⟨by repeat (first | (with_reducible first | exact HB.out | apply below_alloc | apply pw_below_drewN | apply below_drew1 | refine below_set ?_ GE101.out | refine below_set ?_ GE102.out) | exact HB.out)⟩⟩
        · replace c17 := Bool.eq_false_iff.mpr c17
          subst c17
          have H1 : (slopelaw3_BitCovered.j0 k t104 t107 true a0_0 l0_1 a1_0 l1_1) = some r := by rw [if_neg (show ¬ (false = true) by decide)] at H; exact H
          clear H
          have H := H1
          clear H1
          have H' := Aside0.mk H
          clear H
          have hnb25 := NB101_102.out
          have hnc25 := NB102_101.out
          have hcz26_0 : w13.cell? ⟨gb101, 0, none⟩ = some (.int .i64 a0_0) := (blk_cell BK101.out 0).trans rfl
          have hcz26_1 : w13.cell? ⟨gb101, 1, none⟩ = some (.slice A0_1 l0_1.length c0_1) := (blk_cell BK101.out 1).trans rfl
          have hfz26_0 := blk_frozen BK101.out 0
          have hfz26_1 := blk_frozen BK101.out 1
          go_wp2_with (first | ((with_reducible refine gate_callee (f := 27) rfl ?_); refine goesL_ (some 24) rfl rfl Try.func27 (by kernel_rfl) rfl #[.agg #[.int .i64 a0_0, .slice A0_1 l0_1.length c0_1]] rfl (by (try simp only [List.map_toArray, List.map_cons, List.map_nil]); first | done | rfl | (simp only [List.length_drop, List.length_take]; rfl)) ?_; (with_reducible refine (sloperef3_MayTable.calls k a0_0 _ _ l0_1 true _ ?side1 ?side2 A14.out).mono ?_); (case side1 => repeat (first | exact (Kd.C_below HR0_1.out HB.out) | (with_reducible refine Kd.C_alloc ?_ _) | (with_reducible refine Kd.C_drewN ?_ _) | (with_reducible refine Kd.C_drew ?_))); (case side2 => exact HC0_1.out); rintro e w27 ⟨rfl, hb⟩; refine ⟨_, rfl, ?_⟩; have n0_ := Aside0.mk (Kd.V_below (by (with_reducible repeat (first | apply Kd.V_alloc | apply Kd.V_drewN | apply Kd.V_drew)); exact HO1_1.out) hb); have n1_ := Aside0.mk (Kd.R_below (by (with_reducible repeat (first | apply Kd.R_alloc | apply Kd.R_drewN | apply Kd.R_drew)); exact HO106.out) hb); have n2_ := Aside0.mk (blk_below (g := gb101) (o := .cells #[.int .i64 a0_0, .slice A0_1 l0_1.length c0_1] 40 (0, 0)) (by (with_reducible repeat (first | refine blk_drewN ?_ _ | refine blk_drew ?_ | refine blk_alloc ?_ _)); exact BK101.out) hb); have n3_ := Aside0.mk (blk_below (g := gb102) (o := .cells #[.int .i64 a1_0, .slice A1_1 l1_1.length c1_1] 26 (0, 0)) (by (with_reducible repeat (first | refine blk_drewN ?_ _ | refine blk_drew ?_ | refine blk_alloc ?_ _)); exact BK102.out) hb); have n4_ := Aside0.mk (below_step (by repeat (first | (with_reducible first | exact HB.out | apply below_alloc | apply pw_below_drewN | apply below_drew1 | refine below_set ?_ GE101.out | refine below_set ?_ GE102.out) | exact HB.out)) hb); clear HO1_1; clear HO106; clear BK101; clear BK102; clear HB; have HO1_1 := n0_; have HO106 := n1_; have BK101 := n2_; have BK102 := n3_; have HB := n4_; clear n0_ n1_ n2_ n3_ n4_; (try clear hb); (try clear hb2); (try clear hk); (try clear hi); have hcz28_0 : w27.cell? ⟨gb102, 0, none⟩ = some (.int .i64 a1_0) := (blk_cell BK102.out 0).trans rfl; have hcz28_1 : w27.cell? ⟨gb102, 1, none⟩ = some (.slice A1_1 l1_1.length c1_1) := (blk_cell BK102.out 1).trans rfl; have hfz28_0 := blk_frozen BK102.out 0; have hfz28_1 := blk_frozen BK102.out 1) | (go_at_call 24; (with_reducible refine (sloperef3_May.calls k a1_0 _ _ l1_1 false _ ?side1 ?side2 A16.out).mono ?_); (case side1 => repeat (first | exact (Kd.V_reads' HO1_1.out).2.2 | (with_reducible refine Kd.C_alloc ?_ _) | (with_reducible refine Kd.C_drewN ?_ _) | (with_reducible refine Kd.C_drew ?_))); (case side2 => exact (Kd.V_reads' HO1_1.out).2.1); rintro e w29 ⟨rfl, hb⟩; have n0_ := Aside0.mk (Kd.V_below (by (with_reducible repeat (first | apply Kd.V_alloc | apply Kd.V_drewN | apply Kd.V_drew)); exact HO1_1.out) hb); have n1_ := Aside0.mk (Kd.R_below (by (with_reducible repeat (first | apply Kd.R_alloc | apply Kd.R_drewN | apply Kd.R_drew)); exact HO106.out) hb); have n2_ := Aside0.mk (blk_below (g := gb101) (o := .cells #[.int .i64 a0_0, .slice A0_1 l0_1.length c0_1] 40 (0, 0)) (by (with_reducible repeat (first | refine blk_drewN ?_ _ | refine blk_drew ?_ | refine blk_alloc ?_ _)); exact BK101.out) hb); have n3_ := Aside0.mk (blk_below (g := gb102) (o := .cells #[.int .i64 a1_0, .slice A1_1 l1_1.length c1_1] 26 (0, 0)) (by (with_reducible repeat (first | refine blk_drewN ?_ _ | refine blk_drew ?_ | refine blk_alloc ?_ _)); exact BK102.out) hb); have n4_ := Aside0.mk (below_step (by repeat (first | (with_reducible first | exact HB.out | apply below_alloc | apply pw_below_drewN | apply below_drew1 | refine below_set ?_ GE101.out | refine below_set ?_ GE102.out) | exact HB.out)) hb); clear HO1_1; clear HO106; clear BK101; clear BK102; clear HB; have HO1_1 := n0_; have HO106 := n1_; have BK101 := n2_; have BK102 := n3_; have HB := n4_; clear n0_ n1_ n2_ n3_ n4_; (try clear hb); (try clear hb2); (try clear hk); (try clear hi)))
          go_meet
          case rel => exact ⟨_, (true), (by first | rfl | (simp; done) | (simp [*]; done)), H', ⟨by first | omega | exact Nat.le_refl _⟩, ⟨by (with_reducible repeat (first | apply Kd.R_alloc | apply Kd.R_drewN | apply Kd.R_drew)); exact Kd.R_mono HO106.out (fun _ hk => hk.1)⟩, ⟨by (with_reducible repeat (first | apply Kd.V_alloc | apply Kd.V_drewN | apply Kd.V_drew)); exact Kd.V_mono HO1_1.out (fun _ hk => ⟨hk.1.1.1, ⟨hk.2, ⟨hk.1.1.2, hk.1.2⟩⟩⟩)⟩, ⟨by (with_reducible repeat (first | refine blk_drewN ?_ _ | refine blk_drew ?_ | refine blk_alloc ?_ _)); exact BK101.out⟩, ⟨by (with_reducible repeat (first | refine blk_drewN ?_ _ | refine blk_drew ?_ | refine blk_alloc ?_ _)); exact BK102.out⟩, ⟨by repeat (first | (with_reducible first | exact HB.out | apply below_alloc | apply pw_below_drewN | apply below_drew1 | refine below_set ?_ GE101.out | refine below_set ?_ GE102.out) | exact HB.out)⟩⟩
      · replace c15 := Bool.eq_false_iff.mpr c15
        subst c15
        have H1 : (slopelaw3_BitCovered.j0 k t104 t107 true a0_0 l0_1 a1_0 l1_1) = some r := by rw [if_neg (show ¬ (false = true) by decide)] at H; exact H
        clear H
        have H := H1
        clear H1
        have H' := Aside0.mk H
        clear H
        have hnb30 := NB101_102.out
        have hnc30 := NB102_101.out
        have hcz31_0 : w13.cell? ⟨gb101, 0, none⟩ = some (.int .i64 a0_0) := (blk_cell BK101.out 0).trans rfl
        have hcz31_1 : w13.cell? ⟨gb101, 1, none⟩ = some (.slice A0_1 l0_1.length c0_1) := (blk_cell BK101.out 1).trans rfl
        have hfz31_0 := blk_frozen BK101.out 0
        have hfz31_1 := blk_frozen BK101.out 1
        go_wp2_with (first | ((with_reducible refine gate_callee (f := 27) rfl ?_); refine goesL_ (some 24) rfl rfl Try.func27 (by kernel_rfl) rfl #[.agg #[.int .i64 a0_0, .slice A0_1 l0_1.length c0_1]] rfl (by (try simp only [List.map_toArray, List.map_cons, List.map_nil]); first | done | rfl | (simp only [List.length_drop, List.length_take]; rfl)) ?_; (with_reducible refine (sloperef3_MayTable.calls k a0_0 _ _ l0_1 false _ ?side1 ?side2 A14.out).mono ?_); (case side1 => repeat (first | exact (Kd.C_below HR0_1.out HB.out) | (with_reducible refine Kd.C_alloc ?_ _) | (with_reducible refine Kd.C_drewN ?_ _) | (with_reducible refine Kd.C_drew ?_))); (case side2 => exact HC0_1.out); rintro e w32 ⟨rfl, hb⟩; refine ⟨_, rfl, ?_⟩; have n0_ := Aside0.mk (Kd.V_below (by (with_reducible repeat (first | apply Kd.V_alloc | apply Kd.V_drewN | apply Kd.V_drew)); exact HO1_1.out) hb); have n1_ := Aside0.mk (Kd.R_below (by (with_reducible repeat (first | apply Kd.R_alloc | apply Kd.R_drewN | apply Kd.R_drew)); exact HO106.out) hb); have n2_ := Aside0.mk (blk_below (g := gb101) (o := .cells #[.int .i64 a0_0, .slice A0_1 l0_1.length c0_1] 40 (0, 0)) (by (with_reducible repeat (first | refine blk_drewN ?_ _ | refine blk_drew ?_ | refine blk_alloc ?_ _)); exact BK101.out) hb); have n3_ := Aside0.mk (blk_below (g := gb102) (o := .cells #[.int .i64 a1_0, .slice A1_1 l1_1.length c1_1] 26 (0, 0)) (by (with_reducible repeat (first | refine blk_drewN ?_ _ | refine blk_drew ?_ | refine blk_alloc ?_ _)); exact BK102.out) hb); have n4_ := Aside0.mk (below_step (by repeat (first | (with_reducible first | exact HB.out | apply below_alloc | apply pw_below_drewN | apply below_drew1 | refine below_set ?_ GE101.out | refine below_set ?_ GE102.out) | exact HB.out)) hb); clear HO1_1; clear HO106; clear BK101; clear BK102; clear HB; have HO1_1 := n0_; have HO106 := n1_; have BK101 := n2_; have BK102 := n3_; have HB := n4_; clear n0_ n1_ n2_ n3_ n4_; (try clear hb); (try clear hb2); (try clear hk); (try clear hi)))
        go_meet
        case rel => exact ⟨_, (true), (by first | rfl | (simp; done) | (simp [*]; done)), H', ⟨by first | omega | exact Nat.le_refl _⟩, ⟨by (with_reducible repeat (first | apply Kd.R_alloc | apply Kd.R_drewN | apply Kd.R_drew)); exact Kd.R_mono HO106.out (fun _ hk => hk.1)⟩, ⟨by (with_reducible repeat (first | apply Kd.V_alloc | apply Kd.V_drewN | apply Kd.V_drew)); exact Kd.V_mono HO1_1.out (fun _ hk => ⟨hk.1.1.1, ⟨hk.2, ⟨hk.1.1.2, hk.1.2⟩⟩⟩)⟩, ⟨by (with_reducible repeat (first | refine blk_drewN ?_ _ | refine blk_drew ?_ | refine blk_alloc ?_ _)); exact BK101.out⟩, ⟨by (with_reducible repeat (first | refine blk_drewN ?_ _ | refine blk_drew ?_ | refine blk_alloc ?_ _)); exact BK102.out⟩, ⟨by repeat (first | (with_reducible first | exact HB.out | apply below_alloc | apply pw_below_drewN | apply below_drew1 | refine below_set ?_ GE101.out | refine below_set ?_ GE102.out) | exact HB.out)⟩⟩
    case rest =>
      clear HC6
      try clear c1
      try clear c2
      try clear p2
      try clear c3
      try clear c4
      try clear c10
      try clear c11
      try clear c15
      try clear c17
      try clear c18
      try clear c25
      try clear c27
      try clear c30
      try clear hcz11_0
      try clear hcz11_1
      try clear hcz12_0
      try clear hcz12_1
      try clear hcz19_0
      try clear hcz19_1
      try clear hcz21_0
      try clear hcz21_1
      try clear hcz23_0
      try clear hcz23_1
      try clear hcz24_0
      try clear hcz24_1
      try clear hcz26_0
      try clear hcz26_1
      try clear hcz28_0
      try clear hcz28_1
      try clear hcz31_0
      try clear hcz31_1
      try clear hfz11_0
      try clear hfz11_1
      try clear hfz12_0
      try clear hfz12_1
      try clear hfz19_0
      try clear hfz19_1
      try clear hfz21_0
      try clear hfz21_1
      try clear hfz23_0
      try clear hfz23_1
      try clear hfz24_0
      try clear hfz24_1
      try clear hfz26_0
      try clear hfz26_1
      try clear hfz28_0
      try clear hfz28_1
      try clear hfz31_0
      try clear hfz31_1
      obtain ⟨kq, x37_5, rfl, HA, HJ5, HO_5, HO_103001, BK101, BK102, HB⟩ := hcut
      cases kq with
      | zero => exact absurd HA.out (by simp [slopelaw3_BitCovered.j0])
      | succ kj5 =>
        have H := HA.out
        clear HA
        simp only [slopelaw3_BitCovered.j0] at H
        by_cases c33 : x37_5 = true
        · subst c33
          have H1 : ((slopelaw3_num.f t107).bind fun t110 => (if t110 = 0 then (some false) else (some ((t104.length : Int) == 0)))) = some r := by rw [if_pos rfl] at H; exact H
          clear H
          have H := H1
          clear H1
          replace H := Option.bind_eq_some_iff.mp H
          obtain ⟨t110, A340, H⟩ := H
          replace H : (if t110 = 0 then (some false) else (some ((t104.length : Int) == 0))) = some r := H
          have A34 := Aside0.mk A340
          clear A340
          by_cases c35 : t110 = 0
          · rw [if_pos c35] at H
            have c35b0 : (t110 == 0) = true := beq_iff_eq.mpr c35
            have c35b1 : (t110 != 0) = false := bne_eq_false_iff_eq.mpr c35
            clear c35
            obtain rfl := Option.some.inj H
            exact absurd hr (by decide)
          · rw [if_neg c35] at H
            have c35b0 : (t110 == 0) = false := beq_eq_false_iff_ne.mpr c35
            have c35b1 : (t110 != 0) = true := bne_iff_ne.mpr c35
            obtain rfl := Option.some.inj H
            go_wp2_with (first | ((with_reducible refine gate_callee (f := 19) rfl ?_); refine goesL_ (some 39) rfl rfl Try.func19 (by kernel_rfl) rfl #[.int .i64 t107] rfl (by (try simp only [List.map_toArray, List.map_cons, List.map_nil]); first | done | rfl | (simp only [List.length_drop, List.length_take]; rfl)) ?_; (with_reducible refine (slopelaw3_num.calls t107 t110 _ A34.out).mono ?_); rintro e w' ⟨rfl, ⟨nd, rfl⟩⟩; refine ⟨_, rfl, ?_⟩; obtain ⟨Ao36, co36, eo36⟩ := Kd.R_slice HO_5.out; subst eo36))
            go_ret
            exact ⟨by first | rfl | (simp [errW_none, errW_some] <;> rfl) | (simp [*, errW_none, errW_some] <;> rfl), by repeat (first | (with_reducible first | exact HB.out | apply below_alloc | apply pw_below_drewN | apply below_drew1 | refine below_set ?_ GE101.out | refine below_set ?_ GE102.out) | exact HB.out)⟩
        · replace c33 := Bool.eq_false_iff.mpr c33
          subst c33
          have H1 : ((bitset_Union.f kj5 a0_0 l0_1).bind fun bt111 => ((slopelaw3_num.f bt111.2.2).bind fun t117 => (if t117 = 0 then ((bitset_Subset.f kj5 a1_0 l1_1 bt111.1 bt111.2.1).bind fun t118 => ((slopelaw3_num.f t107).bind fun t119 => (slopelaw3_BitCovered.j1 kj5 t104 t107 (t118 != (t119 == 0)) a0_0 l0_1 a1_0 l1_1))) else (slopelaw3_BitCovered.j1 kj5 t104 t107 true a0_0 l0_1 a1_0 l1_1)))) = some r := by rw [if_neg (show ¬ (false = true) by decide)] at H; exact H
          clear H
          have H := H1
          clear H1
          replace H := Option.bind_eq_some_iff.mp H
          obtain ⟨⟨t111, t112, t115⟩, A370, H⟩ := H
          replace H : ((slopelaw3_num.f t115).bind fun t117 => (if t117 = 0 then ((bitset_Subset.f kj5 a1_0 l1_1 t111 t112).bind fun t118 => ((slopelaw3_num.f t107).bind fun t119 => (slopelaw3_BitCovered.j1 kj5 t104 t107 (t118 != (t119 == 0)) a0_0 l0_1 a1_0 l1_1))) else (slopelaw3_BitCovered.j1 kj5 t104 t107 true a0_0 l0_1 a1_0 l1_1))) = some r := H
          have A37 := Aside0.mk A370
          clear A370
          have HC38 := Aside0.mk H
          clear H
          have hnb39 := NB101_102.out
          have hnc39 := NB102_101.out
          have hcz40_0 : wc.cell? ⟨gb101, 0, none⟩ = some (.int .i64 a0_0) := (blk_cell BK101.out 0).trans rfl
          have hcz40_1 : wc.cell? ⟨gb101, 1, none⟩ = some (.slice A0_1 l0_1.length c0_1) := (blk_cell BK101.out 1).trans rfl
          have hfz40_0 := blk_frozen BK101.out 0
          have hfz40_1 := blk_frozen BK101.out 1
          go_upto_region 7 with (first | ((with_reducible refine gate_callee (f := 32) rfl ?_); refine goesL_ (some 51) rfl rfl Try.func32 (by kernel_rfl) rfl #[.int .i64 a0_0, .slice A0_1 l0_1.length c0_1] rfl (by (try simp only [List.map_toArray, List.map_cons, List.map_nil]); first | done | rfl | (simp only [List.length_drop, List.length_take]; rfl)) ?_; (with_reducible refine (bitset_Union.calls kj5 a0_0 _ _ l0_1 t111 t112 t115 _ ?side1 ?side2 A37.out).mono ?_); (case side1 => repeat (first | exact (Kd.C_below HR0_1.out HB.out) | (with_reducible refine Kd.C_alloc ?_ _) | (with_reducible refine Kd.C_drewN ?_ _) | (with_reducible refine Kd.C_drew ?_))); (case side2 => exact HC0_1.out); rintro e w41 ⟨v113, rfl, ho0, hb⟩; refine ⟨_, rfl, ?_⟩; have n0_ := Aside0.mk (Kd.R_below (by (with_reducible repeat (first | apply Kd.R_alloc | apply Kd.R_drewN | apply Kd.R_drew)); exact HO_5.out) hb); have n1_ := Aside0.mk (Kd.V_elder' (by (with_reducible repeat (first | apply Kd.V_alloc | apply Kd.V_drewN | apply Kd.V_drew)); exact HO_103001.out) (Kd.R_base ho0) hb); have n2_ := Aside0.mk (Kd.R_lower (Kd.R_newM (M := fun k_ => (w.heap.size ≤ k_)) ho0 (below_size (by repeat (first | (with_reducible first | exact HB.out | apply below_alloc | apply pw_below_drewN | apply below_drew1 | refine below_set ?_ GE101.out | refine below_set ?_ GE102.out) | exact HB.out))) (fun k_ h_ => h_)) (below_size (by repeat (first | (with_reducible first | exact HB.out | apply below_alloc | apply pw_below_drewN | apply below_drew1 | refine below_set ?_ GE101.out | refine below_set ?_ GE102.out) | exact HB.out)))); have n3_ := Aside0.mk (blk_below (g := gb101) (o := .cells #[.int .i64 a0_0, .slice A0_1 l0_1.length c0_1] 40 (0, 0)) (by (with_reducible repeat (first | refine blk_drewN ?_ _ | refine blk_drew ?_ | refine blk_alloc ?_ _)); exact BK101.out) hb); have n4_ := Aside0.mk (blk_below (g := gb102) (o := .cells #[.int .i64 a1_0, .slice A1_1 l1_1.length c1_1] 26 (0, 0)) (by (with_reducible repeat (first | refine blk_drewN ?_ _ | refine blk_drew ?_ | refine blk_alloc ?_ _)); exact BK102.out) hb); have n5_ := Aside0.mk (below_step (by repeat (first | (with_reducible first | exact HB.out | apply below_alloc | apply pw_below_drewN | apply below_drew1 | refine below_set ?_ GE101.out | refine below_set ?_ GE102.out) | exact HB.out)) hb); clear HO_5; clear HO_103001; clear BK101; clear BK102; clear HB; have HO_5 := n0_; have HO_103001 := n1_; have HO114 := n2_; have BK101 := n3_; have BK102 := n4_; have HB := n5_; clear n0_ n1_ n2_ n3_ n4_ n5_; (try clear hb); (try clear hb2); (try clear hk); (try clear hi); (try clear ho0)) | ((with_reducible refine gate_dst (N := 7) rfl ?_); (try (refine gate_guard (by rfl) ?_; dsimp only)); refine box_event ?hg (N := 7) ?hd (cs := #[.int .i64 0, .slice none 0 0]) (t := 26) ?hr ?_; (case hd => rfl); (case hg => rfl); (case hr => first | (go_simp; done) | (go_simp; rfl)); intro gb116 hg w42 hbox hb; have n0_ := Aside0.mk (Kd.R_below (by (with_reducible repeat (first | apply Kd.R_alloc | apply Kd.R_drewN | apply Kd.R_drew)); exact HO_5.out) hb); have n1_ := Aside0.mk (Kd.V_below (Kd.V_elderB (by (with_reducible repeat (first | apply Kd.V_alloc | apply Kd.V_drewN | apply Kd.V_drew)); exact HO_103001.out) gb116 (Nat.le_of_eq hg.symm)) hb); have n2_ := Aside0.mk (Kd.R_below (by (with_reducible repeat (first | apply Kd.R_alloc | apply Kd.R_drewN | apply Kd.R_drew)); exact HO114.out) hb); have n3_ := Aside0.mk (blk_below (g := gb101) (o := .cells #[.int .i64 a0_0, .slice A0_1 l0_1.length c0_1] 40 (0, 0)) (by (with_reducible repeat (first | refine blk_drewN ?_ _ | refine blk_drew ?_ | refine blk_alloc ?_ _)); exact BK101.out) hb); have n4_ := Aside0.mk (blk_below (g := gb102) (o := .cells #[.int .i64 a1_0, .slice A1_1 l1_1.length c1_1] 26 (0, 0)) (by (with_reducible repeat (first | refine blk_drewN ?_ _ | refine blk_drew ?_ | refine blk_alloc ?_ _)); exact BK102.out) hb); have n5_ := Aside0.mk (below_step (by repeat (first | (with_reducible first | exact HB.out | apply below_alloc | apply pw_below_drewN | apply below_drew1 | refine below_set ?_ GE101.out | refine below_set ?_ GE102.out) | exact HB.out)) hb); have n6_ := Aside0.mk (hbox); have n7_ := Aside0.mk ((by rw [hg]; exact (below_size (by repeat (first | (with_reducible first | exact HB.out | apply below_alloc | apply pw_below_drewN | apply below_drew1 | refine below_set ?_ GE101.out | refine below_set ?_ GE102.out) | exact HB.out))) : w.heap.size ≤ gb116)); have n8_ := Aside0.mk ((by rw [hg]; exact (below_size (by repeat (first | (with_reducible first | exact HB.out | apply below_alloc | apply pw_below_drewN | apply below_drew1 | refine below_set ?_ GE101.out | refine below_set ?_ GE102.out) | exact HB.out))) : w.heap.size ≤ gb116)); have n9_ := Aside0.mk ((by rw [hg]; exact Nat.ne_of_lt (blk_lt (g := gb101) (o := .cells #[.int .i64 a0_0, .slice A0_1 l0_1.length c0_1] 40 (0, 0)) (by (with_reducible repeat (first | refine blk_drewN ?_ _ | refine blk_drew ?_ | refine blk_alloc ?_ _)); exact BK101.out)) : gb101 ≠ gb116)); have n10_ := Aside0.mk ((by rw [hg]; exact Nat.ne_of_gt (blk_lt (g := gb101) (o := .cells #[.int .i64 a0_0, .slice A0_1 l0_1.length c0_1] 40 (0, 0)) (by (with_reducible repeat (first | refine blk_drewN ?_ _ | refine blk_drew ?_ | refine blk_alloc ?_ _)); exact BK101.out)) : gb116 ≠ gb101)); have n11_ := Aside0.mk ((by rw [hg]; exact Nat.ne_of_lt (blk_lt (g := gb102) (o := .cells #[.int .i64 a1_0, .slice A1_1 l1_1.length c1_1] 26 (0, 0)) (by (with_reducible repeat (first | refine blk_drewN ?_ _ | refine blk_drew ?_ | refine blk_alloc ?_ _)); exact BK102.out)) : gb102 ≠ gb116)); have n12_ := Aside0.mk ((by rw [hg]; exact Nat.ne_of_gt (blk_lt (g := gb102) (o := .cells #[.int .i64 a1_0, .slice A1_1 l1_1.length c1_1] 26 (0, 0)) (by (with_reducible repeat (first | refine blk_drewN ?_ _ | refine blk_drew ?_ | refine blk_alloc ?_ _)); exact BK102.out)) : gb116 ≠ gb102)); clear HO_5; clear HO_103001; clear HO114; clear BK101; clear BK102; clear HB; have HO_5 := n0_; have HO_103001 := n1_; have HO114 := n2_; have BK101 := n3_; have BK102 := n4_; have HB := n5_; have BK116 := n6_; have GW116 := n7_; have GE116 := n8_; have NB101_116 := n9_; have NB116_101 := n10_; have NB102_116 := n11_; have NB116_102 := n12_; clear n0_ n1_ n2_ n3_ n4_ n5_ n6_ n7_ n8_ n9_ n10_ n11_ n12_; clear hb hbox hg; have hnb43 := NB116_101.out; have hnc43 := NB101_116.out; have hnb44 := NB116_102.out; have hnc44 := NB102_116.out; have hcz45_0 : w42.cell? ⟨gb116, 0, none⟩ = some (.int .i64 0) := (blk_cell BK116.out 0).trans rfl; have hcz45_1 : w42.cell? ⟨gb116, 1, none⟩ = some (.slice none 0 0) := (blk_cell BK116.out 1).trans rfl; have hfz45_0 := blk_frozen BK116.out 0; have hfz45_1 := blk_frozen BK116.out 1; obtain ⟨Ao46, co46, eo46⟩ := Kd.R_slice HO114.out; subst eo46))
          (try simp only [Act.put, List.setIfInBounds_toArray, List.set_cons_zero, List.set_cons_succ])
          go_cut [65] (fun v65 wc => ∃ (kq : Nat) (x65_37 : Bool), v65 = .bool x65_37 ∧ Aside0 (slopelaw3_BitCovered.j1 kq t104 t107 x65_37 a0_0 l0_1 a1_0 l1_1 = some r) ∧ Aside0 (kq ≤ kj5) ∧ Aside0 (Kd.R (Kd.int .i64) 3 wc w.heap.size (fun k_ => (w.heap.size ≤ k_)) v105 t104) ∧ Aside0 (Kd.V (Kd.int .u64) 82 wc w.heap.size (fun k_ => (P1_1_ k_ ∨ w.heap.size ≤ k_) ∧ some k_ ≠ (v105 : Value).ownBlock ∧ some k_ ≠ ((.slice Ao46 t112.length co46) : Value).ownBlock ∧ k_ ≠ gb101 ∧ k_ ≠ gb102 ∧ k_ ≠ gb116) (.slice A1_1 l1_1.length c1_1) l1_1) ∧ Aside0 (Kd.R (Kd.int .u64) 82 wc w.heap.size (fun k_ => (w.heap.size ≤ k_)) (.slice Ao46 t112.length co46) t112) ∧ Aside0 (wc.heap[gb101]? = some (.cells #[.int .i64 a0_0, (.slice A0_1 l0_1.length c0_1)] 40 (0, 0))) ∧ Aside0 (wc.heap[gb102]? = some (.cells #[.int .i64 a1_0, (.slice A1_1 l1_1.length c1_1)] 26 (0, 0))) ∧ Aside0 (wc.heap[gb116]? = some (.cells #[.int .i64 t111, (.slice Ao46 t112.length co46)] 26 (0, 0))) ∧ Aside0 (Below w.heap.size w wc))
          case first =>
            have H := HC38.out
            clear HC38
            replace H := Option.bind_eq_some_iff.mp H
            obtain ⟨t117, A470, H⟩ := H
            replace H : (if t117 = 0 then ((bitset_Subset.f kj5 a1_0 l1_1 t111 t112).bind fun t118 => ((slopelaw3_num.f t107).bind fun t119 => (slopelaw3_BitCovered.j1 kj5 t104 t107 (t118 != (t119 == 0)) a0_0 l0_1 a1_0 l1_1))) else (slopelaw3_BitCovered.j1 kj5 t104 t107 true a0_0 l0_1 a1_0 l1_1)) = some r := H
            have A47 := Aside0.mk A470
            clear A470
            by_cases c48 : t117 = 0
            · rw [if_pos c48] at H
              have c48b0 : (t117 == 0) = true := beq_iff_eq.mpr c48
              have c48b1 : (t117 != 0) = false := bne_eq_false_iff_eq.mpr c48
              clear c48
              (first | rw [c48b0] | (simp only [i64_w, i32_w]; rw [c48b0]) | skip)
              replace H := Option.bind_eq_some_iff.mp H
              obtain ⟨t118, A490, H⟩ := H
              replace H : ((slopelaw3_num.f t107).bind fun t119 => (slopelaw3_BitCovered.j1 kj5 t104 t107 (t118 != (t119 == 0)) a0_0 l0_1 a1_0 l1_1)) = some r := H
              have A49 := Aside0.mk A490
              clear A490
              replace H := Option.bind_eq_some_iff.mp H
              obtain ⟨t119, A500, H⟩ := H
              replace H : (slopelaw3_BitCovered.j1 kj5 t104 t107 (t118 != (t119 == 0)) a0_0 l0_1 a1_0 l1_1) = some r := H
              have A50 := Aside0.mk A500
              clear A500
              have H' := Aside0.mk H
              clear H
              go_wp2_with (first | ((with_reducible refine gate_callee (f := 19) rfl ?_); refine goesL_ (some 55) rfl rfl Try.func19 (by kernel_rfl) rfl #[.int .i64 t115] rfl (by (try simp only [List.map_toArray, List.map_cons, List.map_nil]); first | done | rfl | (simp only [List.length_drop, List.length_take]; rfl)) ?_; (with_reducible refine (slopelaw3_num.calls t115 t117 _ A47.out).mono ?_); rintro e w' ⟨rfl, ⟨nd, rfl⟩⟩; refine ⟨_, rfl, ?_⟩; have hnb51 := NB102_101.out; have hnc51 := NB101_102.out; have hnb52 := NB102_116.out; have hnc52 := NB116_102.out; have hcz53_0 : w42.cell? ⟨gb102, 0, none⟩ = some (.int .i64 a1_0) := (blk_cell BK102.out 0).trans rfl; have hcz53_1 : w42.cell? ⟨gb102, 1, none⟩ = some (.slice A1_1 l1_1.length c1_1) := (blk_cell BK102.out 1).trans rfl; have hfz53_0 := blk_frozen BK102.out 0; have hfz53_1 := blk_frozen BK102.out 1; have hnb54 := NB116_101.out; have hnc54 := NB101_116.out; have hcz55_0 : w42.cell? ⟨gb116, 0, none⟩ = some (.int .i64 0) := (blk_cell BK116.out 0).trans rfl; have hcz55_1 : w42.cell? ⟨gb116, 1, none⟩ = some (.slice none 0 0) := (blk_cell BK116.out 1).trans rfl; have hfz55_0 := blk_frozen BK116.out 0; have hfz55_1 := blk_frozen BK116.out 1) | (go_at_call 40; (with_reducible refine (bitset_Subset.calls kj5 a1_0 _ _ l1_1 t111 _ _ t112 t118 _ ?side1 ?side2 ?side3 ?side4 A49.out).mono ?_); (case side1 => refine (Kd.V_reads' (e := 82) (base := w.heap.size) (ok := fun k_ => ((((P1_1_ k_ ∨ w.heap.size ≤ k_) ∧ (some k_ ≠ (v105 : Value).ownBlock ∧ (k_ ≠ gb101 ∧ k_ ≠ gb102))) ∧ some k_ ≠ (.slice Ao46 t112.length co46 : Value).ownBlock) ∧ k_ ≠ gb116)) (n := l1_1.length) (c := c1_1) ?_).2.2; exact (by (with_reducible repeat (first | apply Kd.V_alloc | apply Kd.V_drewN | apply Kd.V_drew)); exact (Kd.V_mono (Kd.V_far (p := ⟨gb116, 1, none⟩) (Kd.V_far (p := ⟨gb116, 0, none⟩) (Kd.V_mono HO_103001.out (fun k_ hk => (⟨hk, hk.2⟩ : _ ∧ k_ ≠ gb116))) (fun _ hk => hk.2) (.int .i64 t111)) (fun _ hk => hk.2) (.slice Ao46 t112.length co46)) (fun _ h_ => h_.1)))); (case side2 => exact (Kd.V_reads' HO_103001.out).2.1); (case side3 => refine (Kd.R_reads' (e := 82) (base := w.heap.size) (ok := fun k_ => ((w.heap.size ≤ k_) ∧ True)) (n := t112.length) (c := co46) ?_).2.2; exact (by (with_reducible repeat (first | apply Kd.R_alloc | apply Kd.R_drewN | apply Kd.R_drew)); exact (Kd.R_mono (Kd.R_far (p := ⟨gb116, 1, none⟩) (Kd.R_far (p := ⟨gb116, 0, none⟩) (Kd.R_types HO114.out BK116.out (by decide)) (fun _ hk => hk.2) (.int .i64 t111)) (fun _ hk => hk.2) (.slice Ao46 t112.length co46)) (fun _ h_ => h_.1)))); (case side4 => exact (Kd.R_reads' HO114.out).2.1); rintro e w56 ⟨rfl, hb⟩; have n0_ := Aside0.mk (Kd.R_below (by (with_reducible repeat (first | apply Kd.R_alloc | apply Kd.R_drewN | apply Kd.R_drew)); exact (Kd.R_mono (Kd.R_far (p := ⟨gb116, 1, none⟩) (Kd.R_far (p := ⟨gb116, 0, none⟩) (Kd.R_types HO_5.out BK116.out (by decide)) (fun _ hk => hk.2) (.int .i64 t111)) (fun _ hk => hk.2) (.slice Ao46 t112.length co46)) (fun _ h_ => h_.1))) hb); have n1_ := Aside0.mk (Kd.V_below (by (with_reducible repeat (first | apply Kd.V_alloc | apply Kd.V_drewN | apply Kd.V_drew)); exact (Kd.V_mono (Kd.V_far (p := ⟨gb116, 1, none⟩) (Kd.V_far (p := ⟨gb116, 0, none⟩) (Kd.V_mono HO_103001.out (fun k_ hk => (⟨hk, hk.2⟩ : _ ∧ k_ ≠ gb116))) (fun _ hk => hk.2) (.int .i64 t111)) (fun _ hk => hk.2) (.slice Ao46 t112.length co46)) (fun _ h_ => h_.1))) hb); have n2_ := Aside0.mk (Kd.R_below (by (with_reducible repeat (first | apply Kd.R_alloc | apply Kd.R_drewN | apply Kd.R_drew)); exact (Kd.R_mono (Kd.R_far (p := ⟨gb116, 1, none⟩) (Kd.R_far (p := ⟨gb116, 0, none⟩) (Kd.R_types HO114.out BK116.out (by decide)) (fun _ hk => hk.2) (.int .i64 t111)) (fun _ hk => hk.2) (.slice Ao46 t112.length co46)) (fun _ h_ => h_.1))) hb); have n3_ := Aside0.mk (blk_below (g := gb101) (o := .cells #[.int .i64 a0_0, .slice A0_1 l0_1.length c0_1] 40 (0, 0)) (by (with_reducible repeat (first | refine blk_drewN ?_ _ | refine blk_drew ?_ | refine blk_alloc ?_ _)); refine blk_far ?_ NB101_116.out _; (with_reducible repeat (first | refine blk_drewN ?_ _ | refine blk_drew ?_ | refine blk_alloc ?_ _)); refine blk_far ?_ NB101_116.out _; (with_reducible repeat (first | refine blk_drewN ?_ _ | refine blk_drew ?_ | refine blk_alloc ?_ _)); exact BK101.out) hb); have n4_ := Aside0.mk (blk_below (g := gb102) (o := .cells #[.int .i64 a1_0, .slice A1_1 l1_1.length c1_1] 26 (0, 0)) (by (with_reducible repeat (first | refine blk_drewN ?_ _ | refine blk_drew ?_ | refine blk_alloc ?_ _)); refine blk_far ?_ NB102_116.out _; (with_reducible repeat (first | refine blk_drewN ?_ _ | refine blk_drew ?_ | refine blk_alloc ?_ _)); refine blk_far ?_ NB102_116.out _; (with_reducible repeat (first | refine blk_drewN ?_ _ | refine blk_drew ?_ | refine blk_alloc ?_ _)); exact BK102.out) hb); have n5_ := Aside0.mk (blk_below (g := gb116) (o := .cells #[.int .i64 t111, .slice Ao46 t112.length co46] 26 (0, 0)) (by (with_reducible repeat (first | refine blk_drewN ?_ _ | refine blk_drew ?_ | refine blk_alloc ?_ _)); refine blk_put (cs := #[.int .i64 t111, .slice none 0 0]) ?_ 1 _ rfl; (with_reducible repeat (first | refine blk_drewN ?_ _ | refine blk_drew ?_ | refine blk_alloc ?_ _)); refine blk_put (cs := #[.int .i64 0, .slice none 0 0]) ?_ 0 _ rfl; (with_reducible repeat (first | refine blk_drewN ?_ _ | refine blk_drew ?_ | refine blk_alloc ?_ _)); exact BK116.out) hb); have n6_ := Aside0.mk (below_step (by repeat (first | (with_reducible first | exact HB.out | apply below_alloc | apply pw_below_drewN | apply below_drew1 | refine below_set ?_ GE101.out | refine below_set ?_ GE102.out | refine below_set ?_ GE116.out) | exact HB.out)) hb); clear HO_5; clear HO_103001; clear HO114; clear BK101; clear BK102; clear BK116; clear HB; have HO_5 := n0_; have HO_103001 := n1_; have HO114 := n2_; have BK101 := n3_; have BK102 := n4_; have BK116 := n5_; have HB := n6_; clear n0_ n1_ n2_ n3_ n4_ n5_ n6_; (try clear hb); (try clear hb2); (try clear hk); (try clear hi)) | (go_at_call 19; (with_reducible refine (slopelaw3_num.calls t107 t119 _ A50.out).mono ?_); rintro e w' ⟨rfl, ⟨nd, rfl⟩⟩))
              go_meet
              case rel => exact ⟨_, ((t118 != (t119 == 0))), (by first | rfl | (simp; done) | (simp [*]; done)), H', ⟨by have := HJ5.out; first | omega | exact Nat.le_refl _⟩, ⟨by (with_reducible repeat (first | apply Kd.R_alloc | apply Kd.R_drewN | apply Kd.R_drew)); exact HO_5.out⟩, ⟨by (with_reducible repeat (first | apply Kd.V_alloc | apply Kd.V_drewN | apply Kd.V_drew)); exact Kd.V_mono HO_103001.out (fun _ hk => ⟨hk.1.1.1, ⟨hk.1.1.2.1, ⟨hk.1.2, ⟨hk.1.1.2.2.1, ⟨hk.1.1.2.2.2, hk.2⟩⟩⟩⟩⟩)⟩, ⟨by (with_reducible repeat (first | apply Kd.R_alloc | apply Kd.R_drewN | apply Kd.R_drew)); exact Kd.R_mono HO114.out (fun _ hk => hk.1)⟩, ⟨by (with_reducible repeat (first | refine blk_drewN ?_ _ | refine blk_drew ?_ | refine blk_alloc ?_ _)); exact BK101.out⟩, ⟨by (with_reducible repeat (first | refine blk_drewN ?_ _ | refine blk_drew ?_ | refine blk_alloc ?_ _)); exact BK102.out⟩, ⟨by (with_reducible repeat (first | refine blk_drewN ?_ _ | refine blk_drew ?_ | refine blk_alloc ?_ _)); exact BK116.out⟩, ⟨by repeat (first | (with_reducible first | exact HB.out | apply below_alloc | apply pw_below_drewN | apply below_drew1 | refine below_set ?_ GE101.out | refine below_set ?_ GE102.out | refine below_set ?_ GE116.out) | exact HB.out)⟩⟩
            · rw [if_neg c48] at H
              have c48b0 : (t117 == 0) = false := beq_eq_false_iff_ne.mpr c48
              have c48b1 : (t117 != 0) = true := bne_iff_ne.mpr c48
              (first | rw [c48b0] | (simp only [i64_w, i32_w]; rw [c48b0]) | skip)
              have H' := Aside0.mk H
              clear H
              go_wp2_with (first | ((with_reducible refine gate_callee (f := 19) rfl ?_); refine goesL_ (some 55) rfl rfl Try.func19 (by kernel_rfl) rfl #[.int .i64 t115] rfl (by (try simp only [List.map_toArray, List.map_cons, List.map_nil]); first | done | rfl | (simp only [List.length_drop, List.length_take]; rfl)) ?_; (with_reducible refine (slopelaw3_num.calls t115 t117 _ A47.out).mono ?_); rintro e w' ⟨rfl, ⟨nd, rfl⟩⟩; refine ⟨_, rfl, ?_⟩))
              go_meet
              case rel => exact ⟨_, (true), (by first | rfl | (simp; done) | (simp [*]; done)), H', ⟨by have := HJ5.out; first | omega | exact Nat.le_refl _⟩, ⟨by (with_reducible repeat (first | apply Kd.R_alloc | apply Kd.R_drewN | apply Kd.R_drew)); exact Kd.R_mono (Kd.R_far (p := ⟨gb116, 1, none⟩) (Kd.R_far (p := ⟨gb116, 0, none⟩) (Kd.R_types HO_5.out BK116.out (by decide)) (fun _ hk => hk.2) (.int .i64 t111)) (fun _ hk => hk.2) (.slice Ao46 t112.length co46)) (fun _ hk => hk.1)⟩, ⟨by (with_reducible repeat (first | apply Kd.V_alloc | apply Kd.V_drewN | apply Kd.V_drew)); exact Kd.V_mono (Kd.V_far (p := ⟨gb116, 1, none⟩) (Kd.V_far (p := ⟨gb116, 0, none⟩) (Kd.V_mono HO_103001.out (fun k_ hk => (⟨hk, hk.2⟩ : _ ∧ k_ ≠ gb116))) (fun _ hk => hk.2) (.int .i64 t111)) (fun _ hk => hk.2) (.slice Ao46 t112.length co46)) (fun _ hk => ⟨hk.1.1.1.1, ⟨hk.1.1.1.2.1, ⟨hk.1.1.2, ⟨hk.1.1.1.2.2.1, ⟨hk.1.1.1.2.2.2, hk.1.2⟩⟩⟩⟩⟩)⟩, ⟨by (with_reducible repeat (first | apply Kd.R_alloc | apply Kd.R_drewN | apply Kd.R_drew)); exact Kd.R_mono (Kd.R_far (p := ⟨gb116, 1, none⟩) (Kd.R_far (p := ⟨gb116, 0, none⟩) (Kd.R_types HO114.out BK116.out (by decide)) (fun _ hk => hk.2) (.int .i64 t111)) (fun _ hk => hk.2) (.slice Ao46 t112.length co46)) (fun _ hk => hk.1.1)⟩, ⟨by (with_reducible repeat (first | refine blk_drewN ?_ _ | refine blk_drew ?_ | refine blk_alloc ?_ _)); refine blk_far ?_ NB101_116.out _; (with_reducible repeat (first | refine blk_drewN ?_ _ | refine blk_drew ?_ | refine blk_alloc ?_ _)); refine blk_far ?_ NB101_116.out _; (with_reducible repeat (first | refine blk_drewN ?_ _ | refine blk_drew ?_ | refine blk_alloc ?_ _)); exact BK101.out⟩, ⟨by (with_reducible repeat (first | refine blk_drewN ?_ _ | refine blk_drew ?_ | refine blk_alloc ?_ _)); refine blk_far ?_ NB102_116.out _; (with_reducible repeat (first | refine blk_drewN ?_ _ | refine blk_drew ?_ | refine blk_alloc ?_ _)); refine blk_far ?_ NB102_116.out _; (with_reducible repeat (first | refine blk_drewN ?_ _ | refine blk_drew ?_ | refine blk_alloc ?_ _)); exact BK102.out⟩, ⟨by (with_reducible repeat (first | refine blk_drewN ?_ _ | refine blk_drew ?_ | refine blk_alloc ?_ _)); refine blk_put (cs := #[.int .i64 t111, .slice none 0 0]) ?_ 1 _ rfl; (with_reducible repeat (first | refine blk_drewN ?_ _ | refine blk_drew ?_ | refine blk_alloc ?_ _)); refine blk_put (cs := #[.int .i64 0, .slice none 0 0]) ?_ 0 _ rfl; (with_reducible repeat (first | refine blk_drewN ?_ _ | refine blk_drew ?_ | refine blk_alloc ?_ _)); exact BK116.out⟩, ⟨by repeat (first | (with_reducible first | exact HB.out | apply below_alloc | apply pw_below_drewN | apply below_drew1 | refine below_set ?_ GE101.out | refine below_set ?_ GE102.out | refine below_set ?_ GE116.out) | exact HB.out)⟩⟩
          case rest =>
            clear HC38
            try clear c1
            try clear c2
            try clear p2
            try clear c3
            try clear c4
            try clear c5
            try clear c10
            try clear c11
            try clear c15
            try clear c17
            try clear c18
            try clear c19
            try clear c25
            try clear c27
            try clear c30
            try clear c32
            try clear c33
            try clear c35
            try clear c35b0
            try clear c35b1
            try clear c37
            try clear c39
            try clear c43
            try clear c44
            try clear c48
            try clear c48b0
            try clear c48b1
            try clear c49
            try clear c51
            try clear c52
            try clear c54
            try clear hcz11_0
            try clear hcz11_1
            try clear hcz12_0
            try clear hcz12_1
            try clear hcz19_0
            try clear hcz19_1
            try clear hcz21_0
            try clear hcz21_1
            try clear hcz23_0
            try clear hcz23_1
            try clear hcz24_0
            try clear hcz24_1
            try clear hcz26_0
            try clear hcz26_1
            try clear hcz28_0
            try clear hcz28_1
            try clear hcz31_0
            try clear hcz31_1
            try clear hcz40_0
            try clear hcz40_1
            try clear hcz45_0
            try clear hcz45_1
            try clear hcz53_0
            try clear hcz53_1
            try clear hcz55_0
            try clear hcz55_1
            try clear hfz11_0
            try clear hfz11_1
            try clear hfz12_0
            try clear hfz12_1
            try clear hfz19_0
            try clear hfz19_1
            try clear hfz21_0
            try clear hfz21_1
            try clear hfz23_0
            try clear hfz23_1
            try clear hfz24_0
            try clear hfz24_1
            try clear hfz26_0
            try clear hfz26_1
            try clear hfz28_0
            try clear hfz28_1
            try clear hfz31_0
            try clear hfz31_1
            try clear hfz40_0
            try clear hfz40_1
            try clear hfz45_0
            try clear hfz45_1
            try clear hfz53_0
            try clear hfz53_1
            try clear hfz55_0
            try clear hfz55_1
            try clear p2
            obtain ⟨kq, x65_37, rfl, HA, HJ37, HO_5, HO_103001, HO_117001, BK101, BK102, BK116, HB⟩ := hcut
            cases kq with
            | zero => exact absurd HA.out (by simp [slopelaw3_BitCovered.j1])
            | succ kj37 =>
              have H := HA.out
              clear HA
              simp only [slopelaw3_BitCovered.j1] at H
              by_cases c57 : x65_37 = true
              · subst c57
                have H1 : (some false) = some r := by rw [if_pos rfl] at H; exact H
                clear H
                have H := H1
                clear H1
                obtain rfl := Option.some.inj H
                exact absurd hr (by decide)
              · replace c57 := Bool.eq_false_iff.mpr c57
                subst c57
                have H1 : ((slopelaw3_num.f t107).bind fun t120 => (if t120 = 0 then (slopelaw3_BitCovered.l0 kj37 t104 (wrap64 (a0_0 + 1)) 0 a0_0 l0_1 a1_0 l1_1) else ((slopelaw3_num.f t107).bind fun t121 => (if t121 = 321 then (some ((t104.length : Int) == 0)) else (some false))))) = some r := by rw [if_neg (show ¬ (false = true) by decide)] at H; exact H
                clear H
                have H := H1
                clear H1
                replace H := Option.bind_eq_some_iff.mp H
                obtain ⟨t120, A580, H⟩ := H
                replace H : (if t120 = 0 then (slopelaw3_BitCovered.l0 kj37 t104 (wrap64 (a0_0 + 1)) 0 a0_0 l0_1 a1_0 l1_1) else ((slopelaw3_num.f t107).bind fun t121 => (if t121 = 321 then (some ((t104.length : Int) == 0)) else (some false)))) = some r := H
                have A58 := Aside0.mk A580
                clear A580
                by_cases c59 : t120 = 0
                · rw [if_pos c59] at H
                  have c59b0 : (t120 == 0) = true := beq_iff_eq.mpr c59
                  have c59b1 : (t120 != 0) = false := bne_eq_false_iff_eq.mpr c59
                  clear c59
                  have H' := Aside0.mk H
                  clear H
                  go_wp2_with (first | ((with_reducible refine gate_callee (f := 19) rfl ?_); refine goesL_ (some 67) rfl rfl Try.func19 (by kernel_rfl) rfl #[.int .i64 t107] rfl (by (try simp only [List.map_toArray, List.map_cons, List.map_nil]); first | done | rfl | (simp only [List.length_drop, List.length_take]; rfl)) ?_; (with_reducible refine (slopelaw3_num.calls t107 t120 _ A58.out).mono ?_); rintro e w' ⟨rfl, ⟨nd, rfl⟩⟩; refine ⟨_, rfl, ?_⟩; (try (rw [drewN_self wc]; generalize hq_ : World.drewN wc _ = wc; have n0_ : Aside0 (Kd.V (Kd.int .u64) 82 wc w.heap.size (fun k_ => (P1_1_ k_ ∨ w.heap.size ≤ k_) ∧ some k_ ≠ (.slice Ao46 t112.length co46 : Value).ownBlock ∧ some k_ ≠ (v105 : Value).ownBlock ∧ k_ ≠ gb101 ∧ k_ ≠ gb102 ∧ k_ ≠ gb116) (.slice A1_1 l1_1.length c1_1) l1_1) := ⟨by rw [← hq_]; exact (by (with_reducible repeat (first | apply Kd.V_alloc | apply Kd.V_drewN | apply Kd.V_drew)); exact Kd.V_mono HO_103001.out (fun _ hk => ⟨hk.1, ⟨hk.2.2.1, ⟨hk.2.1, ⟨hk.2.2.2.1, ⟨hk.2.2.2.2.1, hk.2.2.2.2.2⟩⟩⟩⟩⟩))⟩; have n1_ : Aside0 (Kd.R (Kd.int .u64) 82 wc w.heap.size (fun k_ => (w.heap.size ≤ k_)) (.slice Ao46 t112.length co46) t112) := ⟨by rw [← hq_]; exact (by (with_reducible repeat (first | apply Kd.R_alloc | apply Kd.R_drewN | apply Kd.R_drew)); exact HO_117001.out)⟩; have n2_ : Aside0 (Kd.R (Kd.int .i64) 3 wc w.heap.size (fun k_ => (w.heap.size ≤ k_)) v105 t104) := ⟨by rw [← hq_]; exact (by (with_reducible repeat (first | apply Kd.R_alloc | apply Kd.R_drewN | apply Kd.R_drew)); exact HO_5.out)⟩; have n3_ : Aside0 (wc.heap[gb101]? = some (.cells #[.int .i64 a0_0, .slice A0_1 l0_1.length c0_1] 40 (0, 0))) := ⟨by rw [← hq_]; exact (by (with_reducible repeat (first | refine blk_drewN ?_ _ | refine blk_drew ?_ | refine blk_alloc ?_ _)); exact BK101.out)⟩; have n4_ : Aside0 (wc.heap[gb102]? = some (.cells #[.int .i64 a1_0, .slice A1_1 l1_1.length c1_1] 26 (0, 0))) := ⟨by rw [← hq_]; exact (by (with_reducible repeat (first | refine blk_drewN ?_ _ | refine blk_drew ?_ | refine blk_alloc ?_ _)); exact BK102.out)⟩; have n5_ : Aside0 (wc.heap[gb116]? = some (.cells #[.int .i64 t111, .slice Ao46 t112.length co46] 26 (0, 0))) := ⟨by rw [← hq_]; exact (by (with_reducible repeat (first | refine blk_drewN ?_ _ | refine blk_drew ?_ | refine blk_alloc ?_ _)); exact BK116.out)⟩; have n6_ : Aside0 (Below w.heap.size w wc) := ⟨by rw [← hq_]; exact (by repeat (first | (with_reducible first | exact HB.out | apply below_alloc | apply pw_below_drewN | apply below_drew1 | refine below_set ?_ GE101.out | refine below_set ?_ GE102.out | refine below_set ?_ GE116.out) | exact HB.out))⟩; clear HO_103001 HO_117001 HO_5 BK101 BK102 BK116 HB hq_; have HO_103001 := n0_; have HO_117001 := n1_; have HO_5 := n2_; have BK101 := n3_; have BK102 := n4_; have BK116 := n5_; have HB := n6_; clear n0_ n1_ n2_ n3_ n4_ n5_ n6_)); have hnb60 := NB102_101.out; have hnc60 := NB101_102.out; have hnb61 := NB102_116.out; have hnc61 := NB116_102.out; have hcz62_0 : wc.cell? ⟨gb102, 0, none⟩ = some (.int .i64 a1_0) := (blk_cell BK102.out 0).trans rfl; have hcz62_1 : wc.cell? ⟨gb102, 1, none⟩ = some (.slice A1_1 l1_1.length c1_1) := (blk_cell BK102.out 1).trans rfl; have hfz62_0 := blk_frozen BK102.out 0; have hfz62_1 := blk_frozen BK102.out 1) | ((with_reducible refine gate_dst (N := 9) rfl ?_); (try (refine gate_guard (by rfl) ?_; dsimp only)); refine box_event ?hg (N := 9) ?hd (cs := #[.int .i64 0, .slice none 0 0]) (t := 26) ?hr ?_; (case hd => rfl); (case hg => rfl); (case hr => first | (go_simp; done) | (go_simp; rfl)); intro gb122 hg w63 hbox hb; have n0_ := Aside0.mk (Kd.R_below (by (with_reducible repeat (first | apply Kd.R_alloc | apply Kd.R_drewN | apply Kd.R_drew)); exact HO_5.out) hb); have n1_ := Aside0.mk (Kd.V_below (Kd.V_elderB (by (with_reducible repeat (first | apply Kd.V_alloc | apply Kd.V_drewN | apply Kd.V_drew)); exact HO_103001.out) gb122 (Nat.le_of_eq hg.symm)) hb); have n2_ := Aside0.mk (Kd.R_below (by (with_reducible repeat (first | apply Kd.R_alloc | apply Kd.R_drewN | apply Kd.R_drew)); exact HO_117001.out) hb); have n3_ := Aside0.mk (blk_below (g := gb101) (o := .cells #[.int .i64 a0_0, .slice A0_1 l0_1.length c0_1] 40 (0, 0)) (by (with_reducible repeat (first | refine blk_drewN ?_ _ | refine blk_drew ?_ | refine blk_alloc ?_ _)); exact BK101.out) hb); have n4_ := Aside0.mk (blk_below (g := gb102) (o := .cells #[.int .i64 a1_0, .slice A1_1 l1_1.length c1_1] 26 (0, 0)) (by (with_reducible repeat (first | refine blk_drewN ?_ _ | refine blk_drew ?_ | refine blk_alloc ?_ _)); exact BK102.out) hb); have n5_ := Aside0.mk (blk_below (g := gb116) (o := .cells #[.int .i64 t111, .slice Ao46 t112.length co46] 26 (0, 0)) (by (with_reducible repeat (first | refine blk_drewN ?_ _ | refine blk_drew ?_ | refine blk_alloc ?_ _)); exact BK116.out) hb); have n6_ := Aside0.mk (below_step (by repeat (first | (with_reducible first | exact HB.out | apply below_alloc | apply pw_below_drewN | apply below_drew1 | refine below_set ?_ GE101.out | refine below_set ?_ GE102.out | refine below_set ?_ GE116.out) | exact HB.out)) hb); have n7_ := Aside0.mk (hbox); have n8_ := Aside0.mk ((by rw [hg]; exact (below_size (by repeat (first | (with_reducible first | exact HB.out | apply below_alloc | apply pw_below_drewN | apply below_drew1 | refine below_set ?_ GE101.out | refine below_set ?_ GE102.out | refine below_set ?_ GE116.out) | exact HB.out))) : w.heap.size ≤ gb122)); have n9_ := Aside0.mk ((by rw [hg]; exact (below_size (by repeat (first | (with_reducible first | exact HB.out | apply below_alloc | apply pw_below_drewN | apply below_drew1 | refine below_set ?_ GE101.out | refine below_set ?_ GE102.out | refine below_set ?_ GE116.out) | exact HB.out))) : w.heap.size ≤ gb122)); have n10_ := Aside0.mk ((by rw [hg]; exact Nat.ne_of_lt (blk_lt (g := gb101) (o := .cells #[.int .i64 a0_0, .slice A0_1 l0_1.length c0_1] 40 (0, 0)) (by (with_reducible repeat (first | refine blk_drewN ?_ _ | refine blk_drew ?_ | refine blk_alloc ?_ _)); exact BK101.out)) : gb101 ≠ gb122)); have n11_ := Aside0.mk ((by rw [hg]; exact Nat.ne_of_gt (blk_lt (g := gb101) (o := .cells #[.int .i64 a0_0, .slice A0_1 l0_1.length c0_1] 40 (0, 0)) (by (with_reducible repeat (first | refine blk_drewN ?_ _ | refine blk_drew ?_ | refine blk_alloc ?_ _)); exact BK101.out)) : gb122 ≠ gb101)); have n12_ := Aside0.mk ((by rw [hg]; exact Nat.ne_of_lt (blk_lt (g := gb102) (o := .cells #[.int .i64 a1_0, .slice A1_1 l1_1.length c1_1] 26 (0, 0)) (by (with_reducible repeat (first | refine blk_drewN ?_ _ | refine blk_drew ?_ | refine blk_alloc ?_ _)); exact BK102.out)) : gb102 ≠ gb122)); have n13_ := Aside0.mk ((by rw [hg]; exact Nat.ne_of_gt (blk_lt (g := gb102) (o := .cells #[.int .i64 a1_0, .slice A1_1 l1_1.length c1_1] 26 (0, 0)) (by (with_reducible repeat (first | refine blk_drewN ?_ _ | refine blk_drew ?_ | refine blk_alloc ?_ _)); exact BK102.out)) : gb122 ≠ gb102)); have n14_ := Aside0.mk ((by rw [hg]; exact Nat.ne_of_lt (blk_lt (g := gb116) (o := .cells #[.int .i64 t111, .slice Ao46 t112.length co46] 26 (0, 0)) (by (with_reducible repeat (first | refine blk_drewN ?_ _ | refine blk_drew ?_ | refine blk_alloc ?_ _)); exact BK116.out)) : gb116 ≠ gb122)); have n15_ := Aside0.mk ((by rw [hg]; exact Nat.ne_of_gt (blk_lt (g := gb116) (o := .cells #[.int .i64 t111, .slice Ao46 t112.length co46] 26 (0, 0)) (by (with_reducible repeat (first | refine blk_drewN ?_ _ | refine blk_drew ?_ | refine blk_alloc ?_ _)); exact BK116.out)) : gb122 ≠ gb116)); clear HO_5; clear HO_103001; clear HO_117001; clear BK101; clear BK102; clear BK116; clear HB; have HO_5 := n0_; have HO_103001 := n1_; have HO_117001 := n2_; have BK101 := n3_; have BK102 := n4_; have BK116 := n5_; have HB := n6_; have BK122 := n7_; have GW122 := n8_; have GE122 := n9_; have NB101_122 := n10_; have NB122_101 := n11_; have NB102_122 := n12_; have NB122_102 := n13_; have NB116_122 := n14_; have NB122_116 := n15_; clear n0_ n1_ n2_ n3_ n4_ n5_ n6_ n7_ n8_ n9_ n10_ n11_ n12_ n13_ n14_ n15_; clear hb hbox hg; have hnb64 := NB122_101.out; have hnc64 := NB101_122.out; have hnb65 := NB122_102.out; have hnc65 := NB102_122.out; have hnb66 := NB122_116.out; have hnc66 := NB116_122.out; have hcz67_0 : w63.cell? ⟨gb122, 0, none⟩ = some (.int .i64 0) := (blk_cell BK122.out 0).trans rfl; have hcz67_1 : w63.cell? ⟨gb122, 1, none⟩ = some (.slice none 0 0) := (blk_cell BK122.out 1).trans rfl; have hfz67_0 := blk_frozen BK122.out 0; have hfz67_1 := blk_frozen BK122.out 1; have hnb68 := NB101_116.out; have hnc68 := NB116_101.out; have hcz69_0 : w63.cell? ⟨gb101, 0, none⟩ = some (.int .i64 a0_0) := (blk_cell BK101.out 0).trans rfl; have hcz69_1 : w63.cell? ⟨gb101, 1, none⟩ = some (.slice A0_1 l0_1.length c0_1) := (blk_cell BK101.out 1).trans rfl; have hfz69_0 := blk_frozen BK101.out 0; have hfz69_1 := blk_frozen BK101.out 1))
                  go_loopg [10, 11] kj37 (fun kq v10 v11 w' => ∃ (x10_3 : Int) (x11_3 : Int) (x123000_3 : Int) (x123001_3 : List Int) (u123001 : Value), v10 = .int .i64 x10_3 ∧ v11 = .int .i64 x11_3 ∧ Aside0 (slopelaw3_BitCovered.l0 kq t104 x10_3 x11_3 a0_0 l0_1 x123000_3 x123001_3 = some r) ∧ Aside0 (kq ≤ kj37) ∧ Aside0 (Kd.R (Kd.int .i64) 3 w' w.heap.size (fun k_ => (w.heap.size ≤ k_)) v105 t104) ∧ Aside0 (Kd.V (Kd.int .u64) 82 w' w.heap.size (fun k_ => (P1_1_ k_ ∨ w.heap.size ≤ k_) ∧ some k_ ≠ (v105 : Value).ownBlock ∧ some k_ ≠ ((.slice Ao46 t112.length co46) : Value).ownBlock ∧ k_ ≠ gb101 ∧ k_ ≠ gb102 ∧ k_ ≠ gb116 ∧ k_ ≠ gb122) (.slice A1_1 l1_1.length c1_1) l1_1) ∧ Aside0 (Kd.R (Kd.int .u64) 82 w' w.heap.size (fun k_ => (w.heap.size ≤ k_)) (.slice Ao46 t112.length co46) t112) ∧ Aside0 (Kd.V (Kd.int .u64) 82 w' w.heap.size (fun k_ => (P1_1_ k_ ∨ w.heap.size ≤ k_) ∧ some k_ ≠ (v105 : Value).ownBlock ∧ some k_ ≠ ((.slice Ao46 t112.length co46) : Value).ownBlock ∧ k_ ≠ gb101 ∧ k_ ≠ gb102 ∧ k_ ≠ gb116 ∧ k_ ≠ gb122) u123001 x123001_3) ∧ Aside0 (w'.heap[gb101]? = some (.cells #[.int .i64 a0_0, (.slice A0_1 l0_1.length c0_1)] 40 (0, 0))) ∧ Aside0 (w'.heap[gb102]? = some (.cells #[.int .i64 a1_0, (.slice A1_1 l1_1.length c1_1)] 26 (0, 0))) ∧ Aside0 (w'.heap[gb116]? = some (.cells #[.int .i64 t111, (.slice Ao46 t112.length co46)] 26 (0, 0))) ∧ Aside0 (w'.heap[gb122]? = some (.cells #[.int .i64 x123000_3, u123001] 26 (0, 0))) ∧ Aside0 (Below w.heap.size w w'))
                  case atStart => exact ⟨(wrap64 (a0_0 + 1)), (0), (a1_0), (l1_1), (.slice A1_1 l1_1.length c1_1), (by first | rfl | (simp; done) | (simp [*]; done)), (by first | rfl | (simp; done) | (simp [*]; done)), H', ⟨Nat.le_refl _⟩, ⟨by (with_reducible repeat (first | apply Kd.R_alloc | apply Kd.R_drewN | apply Kd.R_drew)); exact Kd.R_mono (Kd.R_far (p := ⟨gb122, 1, none⟩) (Kd.R_far (p := ⟨gb122, 0, none⟩) (Kd.R_types HO_5.out BK122.out (by decide)) (fun _ hk => hk.2) (.int .i64 a1_0)) (fun _ hk => hk.2) (.slice A1_1 l1_1.length c1_1)) (fun _ hk => hk.1)⟩, ⟨by (with_reducible repeat (first | apply Kd.V_alloc | apply Kd.V_drewN | apply Kd.V_drew)); exact Kd.V_mono (Kd.V_far (p := ⟨gb122, 1, none⟩) (Kd.V_far (p := ⟨gb122, 0, none⟩) (Kd.V_mono HO_103001.out (fun k_ hk => (⟨hk, hk.2⟩ : _ ∧ k_ ≠ gb122))) (fun _ hk => hk.2) (.int .i64 a1_0)) (fun _ hk => hk.2) (.slice A1_1 l1_1.length c1_1)) (fun _ hk => ⟨hk.1.1.1, ⟨hk.1.1.2.2.1, ⟨hk.1.1.2.1, ⟨hk.1.1.2.2.2.1, ⟨hk.1.1.2.2.2.2.1, ⟨hk.1.1.2.2.2.2.2, hk.1.2⟩⟩⟩⟩⟩⟩)⟩, ⟨by (with_reducible repeat (first | apply Kd.R_alloc | apply Kd.R_drewN | apply Kd.R_drew)); exact Kd.R_mono (Kd.R_far (p := ⟨gb122, 1, none⟩) (Kd.R_far (p := ⟨gb122, 0, none⟩) (Kd.R_types HO_117001.out BK122.out (by decide)) (fun _ hk => hk.2) (.int .i64 a1_0)) (fun _ hk => hk.2) (.slice A1_1 l1_1.length c1_1)) (fun _ hk => hk.1)⟩, ⟨by (with_reducible repeat (first | apply Kd.V_alloc | apply Kd.V_drewN | apply Kd.V_drew)); exact Kd.V_mono (Kd.V_far (p := ⟨gb122, 1, none⟩) (Kd.V_far (p := ⟨gb122, 0, none⟩) (Kd.V_mono HO_103001.out (fun k_ hk => (⟨hk, hk.2⟩ : _ ∧ k_ ≠ gb122))) (fun _ hk => hk.2) (.int .i64 a1_0)) (fun _ hk => hk.2) (.slice A1_1 l1_1.length c1_1)) (fun _ hk => ⟨hk.1.1.1, ⟨hk.1.1.2.2.1, ⟨hk.1.1.2.1, ⟨hk.1.1.2.2.2.1, ⟨hk.1.1.2.2.2.2.1, ⟨hk.1.1.2.2.2.2.2, hk.1.2⟩⟩⟩⟩⟩⟩)⟩, ⟨by (with_reducible repeat (first | refine blk_drewN ?_ _ | refine blk_drew ?_ | refine blk_alloc ?_ _)); refine blk_far ?_ NB101_122.out _; (with_reducible repeat (first | refine blk_drewN ?_ _ | refine blk_drew ?_ | refine blk_alloc ?_ _)); refine blk_far ?_ NB101_122.out _; (with_reducible repeat (first | refine blk_drewN ?_ _ | refine blk_drew ?_ | refine blk_alloc ?_ _)); exact BK101.out⟩, ⟨by (with_reducible repeat (first | refine blk_drewN ?_ _ | refine blk_drew ?_ | refine blk_alloc ?_ _)); refine blk_far ?_ NB102_122.out _; (with_reducible repeat (first | refine blk_drewN ?_ _ | refine blk_drew ?_ | refine blk_alloc ?_ _)); refine blk_far ?_ NB102_122.out _; (with_reducible repeat (first | refine blk_drewN ?_ _ | refine blk_drew ?_ | refine blk_alloc ?_ _)); exact BK102.out⟩, ⟨by (with_reducible repeat (first | refine blk_drewN ?_ _ | refine blk_drew ?_ | refine blk_alloc ?_ _)); refine blk_far ?_ NB116_122.out _; (with_reducible repeat (first | refine blk_drewN ?_ _ | refine blk_drew ?_ | refine blk_alloc ?_ _)); refine blk_far ?_ NB116_122.out _; (with_reducible repeat (first | refine blk_drewN ?_ _ | refine blk_drew ?_ | refine blk_alloc ?_ _)); exact BK116.out⟩, ⟨by (with_reducible repeat (first | refine blk_drewN ?_ _ | refine blk_drew ?_ | refine blk_alloc ?_ _)); refine blk_put (cs := #[.int .i64 a1_0, .slice none 0 0]) ?_ 1 _ rfl; (with_reducible repeat (first | refine blk_drewN ?_ _ | refine blk_drew ?_ | refine blk_alloc ?_ _)); refine blk_put (cs := #[.int .i64 0, .slice none 0 0]) ?_ 0 _ rfl; (with_reducible repeat (first | refine blk_drewN ?_ _ | refine blk_drew ?_ | refine blk_alloc ?_ _)); exact BK122.out⟩, ⟨by repeat (first | (with_reducible first | exact HB.out | apply below_alloc | apply pw_below_drewN | apply below_drew1 | refine below_set ?_ GE101.out | refine below_set ?_ GE102.out | refine below_set ?_ GE116.out | refine below_set ?_ GE122.out) | exact HB.out)⟩⟩
                  case round =>
                    clear H'
                    try clear c1
                    try clear c2
                    try clear p2
                    try clear c3
                    try clear c4
                    try clear c5
                    try clear c6
                    try clear p6
                    try clear c10
                    try clear c11
                    try clear c15
                    try clear c17
                    try clear c18
                    try clear c19
                    try clear c25
                    try clear c27
                    try clear c30
                    try clear c32
                    try clear c33
                    try clear c35
                    try clear c35b0
                    try clear c35b1
                    try clear c37
                    try clear c39
                    try clear c43
                    try clear c44
                    try clear c48
                    try clear c48b0
                    try clear c48b1
                    try clear c49
                    try clear c51
                    try clear c52
                    try clear c54
                    try clear c57
                    try clear c59
                    try clear c59b0
                    try clear c59b1
                    try clear c60
                    try clear c61
                    try clear c64
                    try clear p64
                    try clear c65
                    try clear c66
                    try clear c68
                    try clear hcz11_0
                    try clear hcz11_1
                    try clear hcz12_0
                    try clear hcz12_1
                    try clear hcz19_0
                    try clear hcz19_1
                    try clear hcz21_0
                    try clear hcz21_1
                    try clear hcz23_0
                    try clear hcz23_1
                    try clear hcz24_0
                    try clear hcz24_1
                    try clear hcz26_0
                    try clear hcz26_1
                    try clear hcz28_0
                    try clear hcz28_1
                    try clear hcz31_0
                    try clear hcz31_1
                    try clear hcz40_0
                    try clear hcz40_1
                    try clear hcz45_0
                    try clear hcz45_1
                    try clear hcz53_0
                    try clear hcz53_1
                    try clear hcz55_0
                    try clear hcz55_1
                    try clear hcz62_0
                    try clear hcz62_1
                    try clear hcz67_0
                    try clear hcz67_1
                    try clear hcz69_0
                    try clear hcz69_1
                    try clear hfz11_0
                    try clear hfz11_1
                    try clear hfz12_0
                    try clear hfz12_1
                    try clear hfz19_0
                    try clear hfz19_1
                    try clear hfz21_0
                    try clear hfz21_1
                    try clear hfz23_0
                    try clear hfz23_1
                    try clear hfz24_0
                    try clear hfz24_1
                    try clear hfz26_0
                    try clear hfz26_1
                    try clear hfz28_0
                    try clear hfz28_1
                    try clear hfz31_0
                    try clear hfz31_1
                    try clear hfz40_0
                    try clear hfz40_1
                    try clear hfz45_0
                    try clear hfz45_1
                    try clear hfz53_0
                    try clear hfz53_1
                    try clear hfz55_0
                    try clear hfz55_1
                    try clear hfz62_0
                    try clear hfz62_1
                    try clear hfz67_0
                    try clear hfz67_1
                    try clear hfz69_0
                    try clear hfz69_1
                    try clear p2
                    obtain ⟨x10_3, x11_3, x123000_3, x123001_3, u123001, rfl, rfl, HA, HK3, HO_5, HO_103001, HO_117001, HO_123001, BK101, BK102, BK116, BK122, HB⟩ := hrel
                    cases gk with
                    | zero => exact absurd HA.out (by simp [slopelaw3_BitCovered.l0])
                    | succ k3 =>
                      have H := HA.out
                      clear HA
                      simp only [slopelaw3_BitCovered.l0] at H
                      by_cases c70 : x11_3 < (t104.length : Int)
                      · rw [if_pos c70] at H
                        have c70b0 : decide (x11_3 < (t104.length : Int)) = true := decide_eq_true c70
                        clear c70
                        have HC71 := Aside0.mk H
                        clear H
                        obtain ⟨Ao72, co72, eo72⟩ := Kd.R_slice HO_5.out
                        subst eo72
                        go_upto_region 16 with (fail)
                        go_cut [101] (fun v101 wc => ∃ (kq : Nat) (x101_70 : Bool), v101 = .bool x101_70 ∧ Aside0 (slopelaw3_BitCovered.j3 kq t104 x10_3 x11_3 x101_70 a0_0 l0_1 x123000_3 x123001_3 = some r) ∧ Aside0 (kq ≤ k3) ∧ Aside0 (Kd.R (Kd.int .i64) 3 wc w.heap.size (fun k_ => (w.heap.size ≤ k_)) (.slice Ao72 t104.length co72) t104) ∧ Aside0 (Kd.V (Kd.int .u64) 82 wc w.heap.size (fun k_ => (P1_1_ k_ ∨ w.heap.size ≤ k_) ∧ some k_ ≠ ((.slice Ao72 t104.length co72) : Value).ownBlock ∧ some k_ ≠ ((.slice Ao46 t112.length co46) : Value).ownBlock ∧ k_ ≠ gb101 ∧ k_ ≠ gb102 ∧ k_ ≠ gb116 ∧ k_ ≠ gb122) (.slice A1_1 l1_1.length c1_1) l1_1) ∧ Aside0 (Kd.R (Kd.int .u64) 82 wc w.heap.size (fun k_ => (w.heap.size ≤ k_)) (.slice Ao46 t112.length co46) t112) ∧ Aside0 (Kd.V (Kd.int .u64) 82 wc w.heap.size (fun k_ => (P1_1_ k_ ∨ w.heap.size ≤ k_) ∧ some k_ ≠ ((.slice Ao72 t104.length co72) : Value).ownBlock ∧ some k_ ≠ ((.slice Ao46 t112.length co46) : Value).ownBlock ∧ k_ ≠ gb101 ∧ k_ ≠ gb102 ∧ k_ ≠ gb116 ∧ k_ ≠ gb122) u123001 x123001_3) ∧ Aside0 (wc.heap[gb101]? = some (.cells #[.int .i64 a0_0, (.slice A0_1 l0_1.length c0_1)] 40 (0, 0))) ∧ Aside0 (wc.heap[gb102]? = some (.cells #[.int .i64 a1_0, (.slice A1_1 l1_1.length c1_1)] 26 (0, 0))) ∧ Aside0 (wc.heap[gb116]? = some (.cells #[.int .i64 t111, (.slice Ao46 t112.length co46)] 26 (0, 0))) ∧ Aside0 (wc.heap[gb122]? = some (.cells #[.int .i64 x123000_3, u123001] 26 (0, 0))) ∧ Aside0 (Below w.heap.size w wc))
                        case first =>
                          have H := HC71.out
                          clear HC71
                          by_cases c73 : 0 ≤ x11_3
                          · rw [if_pos c73] at H
                            have c73b0 : decide (0 ≤ x11_3) = true := decide_eq_true c73
                            clear c73
                            (first | rw [c73b0] | (simp only [i64_w, i32_w]; rw [c73b0]) | skip)
                            by_cases c74 : (rd t104 x11_3) < 0
                            · rw [if_pos c74] at H
                              have c74b0 : decide ((rd t104 x11_3) < 0) = true := decide_eq_true c74
                              clear c74
                              have H' := Aside0.mk H
                              clear H
                              try go_wp2
                              have n0_ := Aside0.mk (Kd.R_drew HO_5.out)
                              have n1_ := Aside0.mk (Kd.V_drew HO_103001.out)
                              have n2_ := Aside0.mk (Kd.R_drew HO_117001.out)
                              have n3_ := Aside0.mk (Kd.V_drew HO_123001.out)
                              have n4_ := Aside0.mk (blk_drew BK101.out)
                              have n5_ := Aside0.mk (blk_drew BK102.out)
                              have n6_ := Aside0.mk (blk_drew BK116.out)
                              have n7_ := Aside0.mk (blk_drew BK122.out)
                              have n8_ := Aside0.mk (below_drew1 HB.out)
                              clear HO_5
                              clear HO_103001
                              clear HO_117001
                              clear HO_123001
                              clear BK101
                              clear BK102
                              clear BK116
                              clear BK122
                              clear HB
                              have HO_5 := n0_
                              have HO_103001 := n1_
                              have HO_117001 := n2_
                              have HO_123001 := n3_
                              have BK101 := n4_
                              have BK102 := n5_
                              have BK116 := n6_
                              have BK122 := n7_
                              have HB := n8_
                              clear n0_ n1_ n2_ n3_ n4_ n5_ n6_ n7_ n8_
                              have p124 : 0 ≤ (x11_3 : Int) := of_decide_eq_true (by first | (with_reducible assumption) | assumption)
                              have q124 : x11_3 < (t104.length : Int) := of_decide_eq_true (by first | (with_reducible assumption) | assumption)
                              obtain ⟨ad124, e124, hx124_0⟩ := Kd.at_int (Kd.R_reads' HO_5.out).2.2 x11_3 p124 q124
                              cases e124
                              replace p124 := eq_true p124
                              replace q124 := eq_true q124
                              refine start_ (n := 15) (S := fun w' => w'.cell? (ad124.add (x11_3).toNat) = some (.int .i64 (rd t104 x11_3))) (ds := []) #[false, false, false, false, false, false, false, false, false, false, false, false, false, false, false] (by kernel_rfl) rfl rfl (hx124_0) (fun hHeld => ?_); refine with_tabW slopelaw3_BitCovered.tab16 slopelaw3_BitCovered.bits16 (fun HT_ HW_ => ?_)
                              generalize wr.drew = w75 at HO_5 HO_103001 HO_117001 HO_123001 BK101 BK102 BK116 BK122 HB hx124_0 hHeld ⊢
                              refine pure_ (i := 0) (N := some 87) (v := ?_) (a' := ?_) #[true, false, false, false, false, false, false, false, false, false, false, false, false, false, false] rfl rfl (any_of HT_.out (by kernel_rfl)) (fun _ _ _ h => h) (Or.inl ⟨by rfl, ?_⟩) ?_ ?_
                              rotate_left
                              · intro w'
                                go_simp
                                with_reducible rfl
                              rotate_left
                              · simp only [Act.put, List.setIfInBounds_toArray, List.set_cons_zero, List.set_cons_succ, i64_w, i32_w]
                                rfl
                              refine pure_ (i := 1) (N := some 88) (v := ?_) (a' := ?_) #[true, true, false, false, false, false, false, false, false, false, false, false, false, false, false] rfl rfl (any_of HT_.out (by kernel_rfl)) (fun _ _ _ h => h) (Or.inl ⟨by rfl, ?_⟩) ?_ ?_
                              rotate_left
                              · intro w'
                                go_simp
                                with_reducible rfl
                              rotate_left
                              · simp only [Act.put, List.setIfInBounds_toArray, List.set_cons_zero, List.set_cons_succ, i64_w, i32_w]
                                rfl
                              refine pure_ (i := 2) (N := some 89) (v := ?_) (a' := ?_) #[true, true, true, false, false, false, false, false, false, false, false, false, false, false, false] rfl rfl (any_of HT_.out (by kernel_rfl)) (fun _ _ _ h => h) (Or.inl ⟨by rfl, ?_⟩) ?_ ?_
                              rotate_left
                              · intro w'
                                go_simp
                                with_reducible rfl
                              rotate_left
                              · simp only [Act.put, List.setIfInBounds_toArray, List.set_cons_zero, List.set_cons_succ, i64_w, i32_w]
                                rfl
                              refine take_ (i := 3) (N := some 90) (v := ?_) (a' := ?_) #[true, true, true, true, false, false, false, false, false, false, false, false, false, false, false] rfl rfl (take_ofW HT_.out HW_.out (by kernel_rfl)) (fun _ _ _ h => h) (Or.inl ⟨by rfl, ?_⟩) hHeld ?_ ?_
                              rotate_left
                              · intro w' s0
                                go_simp
                                with_reducible rfl
                              rotate_left
                              · simp only [Act.put, List.setIfInBounds_toArray, List.set_cons_zero, List.set_cons_succ, i64_w, i32_w]
                                rfl
                              refine pure_ (i := 4) (N := some 91) (v := ?_) (a' := ?_) #[true, true, true, true, true, false, false, false, false, false, false, false, false, false, false] rfl rfl (any_of HT_.out (by kernel_rfl)) (fun _ _ _ h => h) (Or.inl ⟨by rfl, ?_⟩) ?_ ?_
                              rotate_left
                              · intro w'
                                go_simp
                                with_reducible rfl
                              rotate_left
                              · simp only [Act.put, List.setIfInBounds_toArray, List.set_cons_zero, List.set_cons_succ, i64_w, i32_w]
                                rfl
                              refine pure_ (i := 5) (N := some 92) (v := ?_) (a' := ?_) #[true, true, true, true, true, true, false, false, false, false, false, false, false, false, false] rfl rfl (any_of HT_.out (by kernel_rfl)) (fun _ _ _ h => h) (Or.inl ⟨by rfl, ?_⟩) ?_ ?_
                              rotate_left
                              · intro w'
                                go_simp
                                with_reducible rfl
                              rotate_left
                              · simp only [Act.put, List.setIfInBounds_toArray, List.set_cons_zero, List.set_cons_succ, i64_w, i32_w]
                                rfl
                              refine pure_ (i := 6) (N := some 93) (v := undef) (a' := ?_) #[true, true, true, true, true, true, true, false, false, false, false, false, false, false, false] rfl rfl (any_of HT_.out (by kernel_rfl)) (fun _ _ _ h => h) (Or.inr ⟨by rfl, rfl⟩) ?_ ?_
                              rotate_left
                              · simp only [Act.put, List.setIfInBounds_toArray, List.set_cons_zero, List.set_cons_succ, i64_w, i32_w]
                                rfl
                              refine pure_ (i := 7) (N := some 94) (v := undef) (a' := ?_) #[true, true, true, true, true, true, true, true, false, false, false, false, false, false, false] rfl rfl (any_of HT_.out (by kernel_rfl)) (fun _ _ _ h => h) (Or.inr ⟨by rfl, rfl⟩) ?_ ?_
                              rotate_left
                              · simp only [Act.put, List.setIfInBounds_toArray, List.set_cons_zero, List.set_cons_succ, i64_w, i32_w]
                                rfl
                              refine pure_ (i := 8) (N := some 95) (v := undef) (a' := ?_) #[true, true, true, true, true, true, true, true, true, false, false, false, false, false, false] rfl rfl (any_of HT_.out (by kernel_rfl)) (fun _ _ _ h => h) (Or.inr ⟨by rfl, rfl⟩) ?_ ?_
                              rotate_left
                              · simp only [Act.put, List.setIfInBounds_toArray, List.set_cons_zero, List.set_cons_succ, i64_w, i32_w]
                                rfl
                              refine pure_ (i := 9) (N := some 96) (v := undef) (a' := ?_) #[true, true, true, true, true, true, true, true, true, true, false, false, false, false, false] rfl rfl (any_of HT_.out (by kernel_rfl)) (fun _ _ _ h => h) (Or.inr ⟨by rfl, rfl⟩) ?_ ?_
                              rotate_left
                              · simp only [Act.put, List.setIfInBounds_toArray, List.set_cons_zero, List.set_cons_succ, i64_w, i32_w]
                                rfl
                              refine pure_ (i := 10) (N := some 97) (v := undef) (a' := ?_) #[true, true, true, true, true, true, true, true, true, true, true, false, false, false, false] rfl rfl (any_of HT_.out (by kernel_rfl)) (fun _ _ _ h => h) (Or.inr ⟨by rfl, rfl⟩) ?_ ?_
                              rotate_left
                              · simp only [Act.put, List.setIfInBounds_toArray, List.set_cons_zero, List.set_cons_succ, i64_w, i32_w]
                                rfl
                              refine pure_ (i := 11) (N := some 98) (v := undef) (a' := ?_) #[true, true, true, true, true, true, true, true, true, true, true, true, false, false, false] rfl rfl (any_of HT_.out (by kernel_rfl)) (fun _ _ _ h => h) (Or.inr ⟨by rfl, rfl⟩) ?_ ?_
                              rotate_left
                              · simp only [Act.put, List.setIfInBounds_toArray, List.set_cons_zero, List.set_cons_succ, i64_w, i32_w]
                                rfl
                              refine pure_ (i := 12) (N := some 99) (v := undef) (a' := ?_) #[true, true, true, true, true, true, true, true, true, true, true, true, true, false, false] rfl rfl (any_of HT_.out (by kernel_rfl)) (fun _ _ _ h => h) (Or.inr ⟨by rfl, rfl⟩) ?_ ?_
                              rotate_left
                              · simp only [Act.put, List.setIfInBounds_toArray, List.set_cons_zero, List.set_cons_succ, i64_w, i32_w]
                                rfl
                              refine pure_ (i := 13) (N := some 100) (v := undef) (a' := ?_) #[true, true, true, true, true, true, true, true, true, true, true, true, true, true, false] rfl rfl (any_of HT_.out (by kernel_rfl)) (fun _ _ _ h => h) (Or.inr ⟨by rfl, rfl⟩) ?_ ?_
                              rotate_left
                              · simp only [Act.put, List.setIfInBounds_toArray, List.set_cons_zero, List.set_cons_succ, i64_w, i32_w]
                                rfl
                              refine pure_ (i := 14) (N := some 101) (v := ?_) (a' := ?_) #[true, true, true, true, true, true, true, true, true, true, true, true, true, true, true] rfl rfl (any_of HT_.out (by kernel_rfl)) (fun _ _ _ h => h) (Or.inl ⟨by rfl, ?_⟩) ?_ ?_
                              rotate_left
                              · intro w'
                                go_simp
                                with_reducible rfl
                              rotate_left
                              · simp only [Act.put, List.setIfInBounds_toArray, List.set_cons_zero, List.set_cons_succ, i64_w, i32_w]
                                rfl
                              refine done_ (done_of HT_.out (by kernel_rfl)) ?_
                              try go_wp2
                              go_meet
                              case rel => exact ⟨_, (true), (by first | rfl | (simp; done) | (simp [*]; done)), H', ⟨by have := HJ5.out; have := HJ37.out; have := HK3.out; first | omega | exact Nat.le_refl _⟩, ⟨by (with_reducible repeat (first | apply Kd.R_alloc | apply Kd.R_drewN | apply Kd.R_drew)); exact HO_5.out⟩, ⟨by (with_reducible repeat (first | apply Kd.V_alloc | apply Kd.V_drewN | apply Kd.V_drew)); exact HO_103001.out⟩, ⟨by (with_reducible repeat (first | apply Kd.R_alloc | apply Kd.R_drewN | apply Kd.R_drew)); exact HO_117001.out⟩, ⟨by (with_reducible repeat (first | apply Kd.V_alloc | apply Kd.V_drewN | apply Kd.V_drew)); exact HO_123001.out⟩, ⟨by (with_reducible repeat (first | refine blk_drewN ?_ _ | refine blk_drew ?_ | refine blk_alloc ?_ _)); exact BK101.out⟩, ⟨by (with_reducible repeat (first | refine blk_drewN ?_ _ | refine blk_drew ?_ | refine blk_alloc ?_ _)); exact BK102.out⟩, ⟨by (with_reducible repeat (first | refine blk_drewN ?_ _ | refine blk_drew ?_ | refine blk_alloc ?_ _)); exact BK116.out⟩, ⟨by (with_reducible repeat (first | refine blk_drewN ?_ _ | refine blk_drew ?_ | refine blk_alloc ?_ _)); exact BK122.out⟩, ⟨by repeat (first | (with_reducible first | exact HB.out | apply below_alloc | apply pw_below_drewN | apply below_drew1 | refine below_set ?_ GE101.out | refine below_set ?_ GE102.out | refine below_set ?_ GE116.out | refine below_set ?_ GE122.out) | exact HB.out)⟩⟩
                            · rw [if_neg c74] at H
                              have c74b0 : decide ((rd t104 x11_3) < 0) = false := decide_eq_false c74
                              clear c74
                              have H' := Aside0.mk H
                              clear H
                              try go_wp2
                              have n0_ := Aside0.mk (Kd.R_drew HO_5.out)
                              have n1_ := Aside0.mk (Kd.V_drew HO_103001.out)
                              have n2_ := Aside0.mk (Kd.R_drew HO_117001.out)
                              have n3_ := Aside0.mk (Kd.V_drew HO_123001.out)
                              have n4_ := Aside0.mk (blk_drew BK101.out)
                              have n5_ := Aside0.mk (blk_drew BK102.out)
                              have n6_ := Aside0.mk (blk_drew BK116.out)
                              have n7_ := Aside0.mk (blk_drew BK122.out)
                              have n8_ := Aside0.mk (below_drew1 HB.out)
                              clear HO_5
                              clear HO_103001
                              clear HO_117001
                              clear HO_123001
                              clear BK101
                              clear BK102
                              clear BK116
                              clear BK122
                              clear HB
                              have HO_5 := n0_
                              have HO_103001 := n1_
                              have HO_117001 := n2_
                              have HO_123001 := n3_
                              have BK101 := n4_
                              have BK102 := n5_
                              have BK116 := n6_
                              have BK122 := n7_
                              have HB := n8_
                              clear n0_ n1_ n2_ n3_ n4_ n5_ n6_ n7_ n8_
                              have p124 : 0 ≤ (x11_3 : Int) := of_decide_eq_true (by first | (with_reducible assumption) | assumption)
                              have q124 : x11_3 < (t104.length : Int) := of_decide_eq_true (by first | (with_reducible assumption) | assumption)
                              obtain ⟨ad124, e124, hx124_0⟩ := Kd.at_int (Kd.R_reads' HO_5.out).2.2 x11_3 p124 q124
                              cases e124
                              replace p124 := eq_true p124
                              replace q124 := eq_true q124
                              have p125 : 0 ≤ (x11_3 : Int) := of_decide_eq_true (by first | (with_reducible assumption) | assumption)
                              have q125 : x11_3 < (t104.length : Int) := of_decide_eq_true (by first | (with_reducible assumption) | assumption)
                              obtain ⟨ad125, e125, hx125_0⟩ := Kd.at_int (Kd.R_reads' HO_5.out).2.2 x11_3 p125 q125
                              obtain rfl : ad124 = ad125 := (by injection e125)
                              replace p125 := eq_true p125
                              replace q125 := eq_true q125
                              refine start_ (n := 15) (S := fun w' => w'.cell? ⟨gb101, 0, none⟩ = some (.int .i64 a0_0) ∧ w'.cell? ⟨gb101, 1, none⟩ = some (.slice A0_1 l0_1.length c0_1) ∧ w'.cell? (ad124.add (x11_3).toNat) = some (.int .i64 (rd t104 x11_3)) ∧ w'.cell? (ad124.add (x11_3).toNat) = some (.int .i64 (rd t104 x11_3))) (ds := []) #[false, false, false, false, false, false, false, false, false, false, false, false, false, false, false] (by kernel_rfl) rfl rfl ⟨(blk_cell BK101.out 0).trans rfl, (blk_cell BK101.out 1).trans rfl, hx124_0, hx125_0⟩ (fun hHeld => ?_); refine with_tabW slopelaw3_BitCovered.tab16 slopelaw3_BitCovered.bits16 (fun HT_ HW_ => ?_)
                              generalize wr.drew = w76 at HO_5 HO_103001 HO_117001 HO_123001 BK101 BK102 BK116 BK122 HB hx124_0 hx125_0 hHeld ⊢
                              refine pure_ (i := 0) (N := some 87) (v := ?_) (a' := ?_) #[true, false, false, false, false, false, false, false, false, false, false, false, false, false, false] rfl rfl (any_of HT_.out (by kernel_rfl)) (fun _ _ _ h => h) (Or.inl ⟨by rfl, ?_⟩) ?_ ?_
                              rotate_left
                              · intro w'
                                go_simp
                                with_reducible rfl
                              rotate_left
                              · simp only [Act.put, List.setIfInBounds_toArray, List.set_cons_zero, List.set_cons_succ, i64_w, i32_w]
                                rfl
                              refine pure_ (i := 1) (N := some 88) (v := ?_) (a' := ?_) #[true, true, false, false, false, false, false, false, false, false, false, false, false, false, false] rfl rfl (any_of HT_.out (by kernel_rfl)) (fun _ _ _ h => h) (Or.inl ⟨by rfl, ?_⟩) ?_ ?_
                              rotate_left
                              · intro w'
                                go_simp
                                with_reducible rfl
                              rotate_left
                              · simp only [Act.put, List.setIfInBounds_toArray, List.set_cons_zero, List.set_cons_succ, i64_w, i32_w]
                                rfl
                              refine pure_ (i := 2) (N := some 89) (v := ?_) (a' := ?_) #[true, true, true, false, false, false, false, false, false, false, false, false, false, false, false] rfl rfl (any_of HT_.out (by kernel_rfl)) (fun _ _ _ h => h) (Or.inl ⟨by rfl, ?_⟩) ?_ ?_
                              rotate_left
                              · intro w'
                                go_simp
                                with_reducible rfl
                              rotate_left
                              · simp only [Act.put, List.setIfInBounds_toArray, List.set_cons_zero, List.set_cons_succ, i64_w, i32_w]
                                rfl
                              refine take_ (i := 3) (N := some 90) (v := ?_) (a' := ?_) #[true, true, true, true, false, false, false, false, false, false, false, false, false, false, false] rfl rfl (take_ofW HT_.out HW_.out (by kernel_rfl)) (fun _ _ _ h => h) (Or.inl ⟨by rfl, ?_⟩) hHeld ?_ ?_
                              rotate_left
                              · rintro w' ⟨s0, s1, s2, s3⟩
                                go_simp
                                with_reducible rfl
                              rotate_left
                              · simp only [Act.put, List.setIfInBounds_toArray, List.set_cons_zero, List.set_cons_succ, i64_w, i32_w]
                                rfl
                              refine pure_ (i := 4) (N := some 91) (v := ?_) (a' := ?_) #[true, true, true, true, true, false, false, false, false, false, false, false, false, false, false] rfl rfl (any_of HT_.out (by kernel_rfl)) (fun _ _ _ h => h) (Or.inl ⟨by rfl, ?_⟩) ?_ ?_
                              rotate_left
                              · intro w'
                                go_simp
                                with_reducible rfl
                              rotate_left
                              · simp only [Act.put, List.setIfInBounds_toArray, List.set_cons_zero, List.set_cons_succ, i64_w, i32_w]
                                rfl
                              refine pure_ (i := 5) (N := some 92) (v := ?_) (a' := ?_) #[true, true, true, true, true, true, false, false, false, false, false, false, false, false, false] rfl rfl (any_of HT_.out (by kernel_rfl)) (fun _ _ _ h => h) (Or.inl ⟨by rfl, ?_⟩) ?_ ?_
                              rotate_left
                              · intro w'
                                go_simp
                                with_reducible rfl
                              rotate_left
                              · simp only [Act.put, List.setIfInBounds_toArray, List.set_cons_zero, List.set_cons_succ, i64_w, i32_w]
                                rfl
                              refine pure_ (i := 6) (N := some 93) (v := ?_) (a' := ?_) #[true, true, true, true, true, true, true, false, false, false, false, false, false, false, false] rfl rfl (any_of HT_.out (by kernel_rfl)) (fun _ _ _ h => h) (Or.inl ⟨by rfl, ?_⟩) ?_ ?_
                              rotate_left
                              · intro w'
                                go_simp
                                with_reducible rfl
                              rotate_left
                              · simp only [Act.put, List.setIfInBounds_toArray, List.set_cons_zero, List.set_cons_succ, i64_w, i32_w]
                                rfl
                              refine pure_ (i := 7) (N := some 94) (v := ?_) (a' := ?_) #[true, true, true, true, true, true, true, true, false, false, false, false, false, false, false] rfl rfl (any_of HT_.out (by kernel_rfl)) (fun _ _ _ h => h) (Or.inl ⟨by rfl, ?_⟩) ?_ ?_
                              rotate_left
                              · intro w'
                                go_simp
                                with_reducible rfl
                              rotate_left
                              · simp only [Act.put, List.setIfInBounds_toArray, List.set_cons_zero, List.set_cons_succ, i64_w, i32_w]
                                rfl
                              refine pure_ (i := 8) (N := some 95) (v := ?_) (a' := ?_) #[true, true, true, true, true, true, true, true, true, false, false, false, false, false, false] rfl rfl (any_of HT_.out (by kernel_rfl)) (fun _ _ _ h => h) (Or.inl ⟨by rfl, ?_⟩) ?_ ?_
                              rotate_left
                              · intro w'
                                go_simp
                                with_reducible rfl
                              rotate_left
                              · simp only [Act.put, List.setIfInBounds_toArray, List.set_cons_zero, List.set_cons_succ, i64_w, i32_w]
                                rfl
                              refine pure_ (i := 10) (N := some 97) (v := ?_) (a' := ?_) #[true, true, true, true, true, true, true, true, true, false, true, false, false, false, false] rfl rfl (any_of HT_.out (by kernel_rfl)) (fun _ _ _ h => h) (Or.inl ⟨by rfl, ?_⟩) ?_ ?_
                              rotate_left
                              · intro w'
                                go_simp
                                with_reducible rfl
                              rotate_left
                              · simp only [Act.put, List.setIfInBounds_toArray, List.set_cons_zero, List.set_cons_succ, i64_w, i32_w]
                                rfl
                              refine take_ (i := 9) (N := some 96) (v := ?_) (a' := ?_) #[true, true, true, true, true, true, true, true, true, true, true, false, false, false, false] rfl rfl (take_ofW HT_.out HW_.out (by kernel_rfl)) (fun _ _ _ h => h) (Or.inl ⟨by rfl, ?_⟩) hHeld ?_ ?_
                              rotate_left
                              · rintro w' ⟨s0, s1, s2, s3⟩
                                go_simp
                                with_reducible rfl
                              rotate_left
                              · simp only [Act.put, List.setIfInBounds_toArray, List.set_cons_zero, List.set_cons_succ, i64_w, i32_w]
                                rfl
                              refine take_ (i := 11) (N := some 98) (v := ?_) (a' := ?_) #[true, true, true, true, true, true, true, true, true, true, true, true, false, false, false] rfl rfl (take_ofW HT_.out HW_.out (by kernel_rfl)) (fun _ _ _ h => h) (Or.inl ⟨by rfl, ?_⟩) hHeld ?_ ?_
                              rotate_left
                              · rintro w' ⟨s0, s1, s2, s3⟩
                                go_simp
                                with_reducible rfl
                              rotate_left
                              · simp only [Act.put, List.setIfInBounds_toArray, List.set_cons_zero, List.set_cons_succ, i64_w, i32_w]
                                rfl
                              refine pure_ (i := 12) (N := some 99) (v := ?_) (a' := ?_) #[true, true, true, true, true, true, true, true, true, true, true, true, true, false, false] rfl rfl (any_of HT_.out (by kernel_rfl)) (fun _ _ _ h => h) (Or.inl ⟨by rfl, ?_⟩) ?_ ?_
                              rotate_left
                              · intro w'
                                go_simp
                                with_reducible rfl
                              rotate_left
                              · simp only [Act.put, List.setIfInBounds_toArray, List.set_cons_zero, List.set_cons_succ, i64_w, i32_w]
                                rfl
                              refine pure_ (i := 13) (N := some 100) (v := ?_) (a' := ?_) #[true, true, true, true, true, true, true, true, true, true, true, true, true, true, false] rfl rfl (any_of HT_.out (by kernel_rfl)) (fun _ _ _ h => h) (Or.inl ⟨by rfl, ?_⟩) ?_ ?_
                              rotate_left
                              · intro w'
                                go_simp
                                with_reducible rfl
                              rotate_left
                              · simp only [Act.put, List.setIfInBounds_toArray, List.set_cons_zero, List.set_cons_succ, i64_w, i32_w]
                                rfl
                              refine pure_ (i := 14) (N := some 101) (v := ?_) (a' := ?_) #[true, true, true, true, true, true, true, true, true, true, true, true, true, true, true] rfl rfl (any_of HT_.out (by kernel_rfl)) (fun _ _ _ h => h) (Or.inl ⟨by rfl, ?_⟩) ?_ ?_
                              rotate_left
                              · intro w'
                                go_simp
                                with_reducible rfl
                              rotate_left
                              · simp only [Act.put, List.setIfInBounds_toArray, List.set_cons_zero, List.set_cons_succ, i64_w, i32_w]
                                rfl
                              refine done_ (done_of HT_.out (by kernel_rfl)) ?_
                              try go_wp2
                              go_meet
                              case rel => exact ⟨_, (decide ((rd t104 x11_3) ≥ (l0_1.length : Int))), (by first | rfl | (simp; done) | (simp [*]; done)), H', ⟨by have := HJ5.out; have := HJ37.out; have := HK3.out; first | omega | exact Nat.le_refl _⟩, ⟨by (with_reducible repeat (first | apply Kd.R_alloc | apply Kd.R_drewN | apply Kd.R_drew)); exact HO_5.out⟩, ⟨by (with_reducible repeat (first | apply Kd.V_alloc | apply Kd.V_drewN | apply Kd.V_drew)); exact HO_103001.out⟩, ⟨by (with_reducible repeat (first | apply Kd.R_alloc | apply Kd.R_drewN | apply Kd.R_drew)); exact HO_117001.out⟩, ⟨by (with_reducible repeat (first | apply Kd.V_alloc | apply Kd.V_drewN | apply Kd.V_drew)); exact HO_123001.out⟩, ⟨by (with_reducible repeat (first | refine blk_drewN ?_ _ | refine blk_drew ?_ | refine blk_alloc ?_ _)); exact BK101.out⟩, ⟨by (with_reducible repeat (first | refine blk_drewN ?_ _ | refine blk_drew ?_ | refine blk_alloc ?_ _)); exact BK102.out⟩, ⟨by (with_reducible repeat (first | refine blk_drewN ?_ _ | refine blk_drew ?_ | refine blk_alloc ?_ _)); exact BK116.out⟩, ⟨by (with_reducible repeat (first | refine blk_drewN ?_ _ | refine blk_drew ?_ | refine blk_alloc ?_ _)); exact BK122.out⟩, ⟨by repeat (first | (with_reducible first | exact HB.out | apply below_alloc | apply pw_below_drewN | apply below_drew1 | refine below_set ?_ GE101.out | refine below_set ?_ GE102.out | refine below_set ?_ GE116.out | refine below_set ?_ GE122.out) | exact HB.out)⟩⟩
                          · rw [if_neg c73] at H
                            exact absurd H (by simp)
                        case rest =>
                          clear HC71
                          try clear c1
                          try clear p1
                          try clear q1
                          try clear hx1
                          try clear c2
                          try clear p2
                          try clear c3
                          try clear c4
                          try clear c5
                          try clear c6
                          try clear p6
                          try clear c7
                          try clear c10
                          try clear c11
                          try clear p12
                          try clear q12
                          try clear hx12
                          try clear c15
                          try clear c17
                          try clear c18
                          try clear c19
                          try clear c25
                          try clear c27
                          try clear c30
                          try clear c32
                          try clear c33
                          try clear c35
                          try clear c35b0
                          try clear c35b1
                          try clear c37
                          try clear c39
                          try clear c43
                          try clear c44
                          try clear c48
                          try clear c48b0
                          try clear c48b1
                          try clear c49
                          try clear c51
                          try clear c52
                          try clear c54
                          try clear c57
                          try clear c59
                          try clear c59b0
                          try clear c59b1
                          try clear c60
                          try clear c61
                          try clear c64
                          try clear p64
                          try clear c65
                          try clear c66
                          try clear c68
                          try clear c70
                          try clear c70b0
                          try clear c73
                          try clear c73b0
                          try clear c74
                          try clear c74b0
                          try clear hcz11_0
                          try clear hcz11_1
                          try clear hcz12_0
                          try clear hcz12_1
                          try clear hcz19_0
                          try clear hcz19_1
                          try clear hcz21_0
                          try clear hcz21_1
                          try clear hcz23_0
                          try clear hcz23_1
                          try clear hcz24_0
                          try clear hcz24_1
                          try clear hcz26_0
                          try clear hcz26_1
                          try clear hcz28_0
                          try clear hcz28_1
                          try clear hcz31_0
                          try clear hcz31_1
                          try clear hcz40_0
                          try clear hcz40_1
                          try clear hcz45_0
                          try clear hcz45_1
                          try clear hcz53_0
                          try clear hcz53_1
                          try clear hcz55_0
                          try clear hcz55_1
                          try clear hcz62_0
                          try clear hcz62_1
                          try clear hcz67_0
                          try clear hcz67_1
                          try clear hcz69_0
                          try clear hcz69_1
                          try clear hfz11_0
                          try clear hfz11_1
                          try clear hfz12_0
                          try clear hfz12_1
                          try clear hfz19_0
                          try clear hfz19_1
                          try clear hfz21_0
                          try clear hfz21_1
                          try clear hfz23_0
                          try clear hfz23_1
                          try clear hfz24_0
                          try clear hfz24_1
                          try clear hfz26_0
                          try clear hfz26_1
                          try clear hfz28_0
                          try clear hfz28_1
                          try clear hfz31_0
                          try clear hfz31_1
                          try clear hfz40_0
                          try clear hfz40_1
                          try clear hfz45_0
                          try clear hfz45_1
                          try clear hfz53_0
                          try clear hfz53_1
                          try clear hfz55_0
                          try clear hfz55_1
                          try clear hfz62_0
                          try clear hfz62_1
                          try clear hfz67_0
                          try clear hfz67_1
                          try clear hfz69_0
                          try clear hfz69_1
                          try clear hx124_0
                          try clear hx125_0
                          try clear p124
                          try clear p125
                          try clear p2
                          try clear p6
                          try clear p64
                          try clear q124
                          try clear q125
                          obtain ⟨kq, x101_70, rfl, HA, HJ70, HO_5, HO_103001, HO_117001, HO_123001, BK101, BK102, BK116, BK122, HB⟩ := hcut
                          cases kq with
                          | zero => exact absurd HA.out (by simp [slopelaw3_BitCovered.j3])
                          | succ kj70 =>
                            have H := HA.out
                            clear HA
                            simp only [slopelaw3_BitCovered.j3] at H
                            by_cases c77 : x101_70 = true
                            · subst c77
                              have H1 : (some false) = some r := by rw [if_pos rfl] at H; exact H
                              clear H
                              have H := H1
                              clear H1
                              obtain rfl := Option.some.inj H
                              exact absurd hr (by decide)
                            · replace c77 := Bool.eq_false_iff.mpr c77
                              subst c77
                              have H1 : (if 0 ≤ x11_3 then (if x11_3 < (t104.length : Int) then (if 0 ≤ (rd t104 x11_3) then (if (rd t104 x11_3) < (l0_1.length : Int) then ((bitset_Minus.f kj70 x123000_3 x123001_3 ((rd_T26 l0_1 (rd t104 x11_3)).f0) ((rd_T26 l0_1 (rd t104 x11_3)).f1)).bind fun bt128 => ((bitset_Count.f kj70 x123000_3 x123001_3).bind fun t134 => ((bitset_Count.f kj70 bt128.1 bt128.2.1).bind fun t135 => ((slopelaw3_num.f bt128.2.2).bind fun t136 => (if t136 = 0 then (if (wrap64 (t134 - t135)) < 1 then (some false) else (if (wrap64 (t134 - t135)) > x10_3 then (some false) else (slopelaw3_BitCovered.l0 kj70 t104 (wrap64 (t134 - t135)) (wrap64 (x11_3 + 1)) a0_0 l0_1 bt128.1 bt128.2.1))) else (some false)))))) else (none)) else (none)) else (none)) else (none)) = some r := by rw [if_neg (show ¬ (false = true) by decide)] at H; exact H
                              clear H
                              have H := H1
                              clear H1
                              by_cases c78 : 0 ≤ x11_3
                              · rw [if_pos c78] at H
                                have c78b0 : decide (0 ≤ x11_3) = true := decide_eq_true c78
                                clear c78
                                by_cases c79 : x11_3 < (t104.length : Int)
                                · rw [if_pos c79] at H
                                  have c79b0 : decide (x11_3 < (t104.length : Int)) = true := decide_eq_true c79
                                  clear c79
                                  by_cases c80 : 0 ≤ (rd t104 x11_3)
                                  · rw [if_pos c80] at H
                                    have c80b0 : decide (0 ≤ (rd t104 x11_3)) = true := decide_eq_true c80
                                    clear c80
                                    by_cases c81 : (rd t104 x11_3) < (l0_1.length : Int)
                                    · rw [if_pos c81] at H
                                      have c81b0 : decide ((rd t104 x11_3) < (l0_1.length : Int)) = true := decide_eq_true c81
                                      clear c81
                                      replace H := Option.bind_eq_some_iff.mp H
                                      obtain ⟨⟨t128, t129, t132⟩, A820, H⟩ := H
                                      replace H : ((bitset_Count.f kj70 x123000_3 x123001_3).bind fun t134 => ((bitset_Count.f kj70 t128 t129).bind fun t135 => ((slopelaw3_num.f t132).bind fun t136 => (if t136 = 0 then (if (wrap64 (t134 - t135)) < 1 then (some false) else (if (wrap64 (t134 - t135)) > x10_3 then (some false) else (slopelaw3_BitCovered.l0 kj70 t104 (wrap64 (t134 - t135)) (wrap64 (x11_3 + 1)) a0_0 l0_1 t128 t129))) else (some false))))) = some r := H
                                      have A82 := Aside0.mk A820
                                      clear A820
                                      replace H := Option.bind_eq_some_iff.mp H
                                      obtain ⟨t134, A830, H⟩ := H
                                      replace H : ((bitset_Count.f kj70 t128 t129).bind fun t135 => ((slopelaw3_num.f t132).bind fun t136 => (if t136 = 0 then (if (wrap64 (t134 - t135)) < 1 then (some false) else (if (wrap64 (t134 - t135)) > x10_3 then (some false) else (slopelaw3_BitCovered.l0 kj70 t104 (wrap64 (t134 - t135)) (wrap64 (x11_3 + 1)) a0_0 l0_1 t128 t129))) else (some false)))) = some r := H
                                      have A83 := Aside0.mk A830
                                      clear A830
                                      replace H := Option.bind_eq_some_iff.mp H
                                      obtain ⟨t135, A840, H⟩ := H
                                      replace H : ((slopelaw3_num.f t132).bind fun t136 => (if t136 = 0 then (if (wrap64 (t134 - t135)) < 1 then (some false) else (if (wrap64 (t134 - t135)) > x10_3 then (some false) else (slopelaw3_BitCovered.l0 kj70 t104 (wrap64 (t134 - t135)) (wrap64 (x11_3 + 1)) a0_0 l0_1 t128 t129))) else (some false))) = some r := H
                                      have A84 := Aside0.mk A840
                                      clear A840
                                      replace H := Option.bind_eq_some_iff.mp H
                                      obtain ⟨t136, A850, H⟩ := H
                                      replace H : (if t136 = 0 then (if (wrap64 (t134 - t135)) < 1 then (some false) else (if (wrap64 (t134 - t135)) > x10_3 then (some false) else (slopelaw3_BitCovered.l0 kj70 t104 (wrap64 (t134 - t135)) (wrap64 (x11_3 + 1)) a0_0 l0_1 t128 t129))) else (some false)) = some r := H
                                      have A85 := Aside0.mk A850
                                      clear A850
                                      by_cases c86 : t136 = 0
                                      · rw [if_pos c86] at H
                                        have c86b0 : (t136 == 0) = true := beq_iff_eq.mpr c86
                                        have c86b1 : (t136 != 0) = false := bne_eq_false_iff_eq.mpr c86
                                        clear c86
                                        by_cases c87 : (wrap64 (t134 - t135)) < 1
                                        · rw [if_pos c87] at H
                                          have c87b0 : decide ((wrap64 (t134 - t135)) < 1) = true := decide_eq_true c87
                                          clear c87
                                          obtain rfl := Option.some.inj H
                                          exact absurd hr (by decide)
                                        · rw [if_neg c87] at H
                                          have c87b0 : decide ((wrap64 (t134 - t135)) < 1) = false := decide_eq_false c87
                                          clear c87
                                          by_cases c100 : (wrap64 (t134 - t135)) > x10_3
                                          · rw [if_pos c100] at H
                                            have c100b0 : decide (x10_3 < (wrap64 (t134 - t135))) = true := decide_eq_true c100
                                            clear c100
                                            obtain rfl := Option.some.inj H
                                            exact absurd hr (by decide)
                                          · rw [if_neg c100] at H
                                            have c100b0 : decide (x10_3 < (wrap64 (t134 - t135))) = false := decide_eq_false c100
                                            clear c100
                                            have H' := Aside0.mk H
                                            clear H
                                            obtain ⟨Ao113, co113, eo113⟩ := Kd.V_slice HO_123001.out
                                            subst eo113
                                            try go_wp2
                                            have n0_ := Aside0.mk (Kd.R_drew HO_5.out)
                                            have n1_ := Aside0.mk (Kd.V_drew HO_103001.out)
                                            have n2_ := Aside0.mk (Kd.R_drew HO_117001.out)
                                            have n3_ := Aside0.mk (Kd.V_drew HO_123001.out)
                                            have n4_ := Aside0.mk (blk_drew BK101.out)
                                            have n5_ := Aside0.mk (blk_drew BK102.out)
                                            have n6_ := Aside0.mk (blk_drew BK116.out)
                                            have n7_ := Aside0.mk (blk_drew BK122.out)
                                            have n8_ := Aside0.mk (below_drew1 HB.out)
                                            clear HO_5
                                            clear HO_103001
                                            clear HO_117001
                                            clear HO_123001
                                            clear BK101
                                            clear BK102
                                            clear BK116
                                            clear BK122
                                            clear HB
                                            have HO_5 := n0_
                                            have HO_103001 := n1_
                                            have HO_117001 := n2_
                                            have HO_123001 := n3_
                                            have BK101 := n4_
                                            have BK102 := n5_
                                            have BK116 := n6_
                                            have BK122 := n7_
                                            have HB := n8_
                                            clear n0_ n1_ n2_ n3_ n4_ n5_ n6_ n7_ n8_
                                            have p126 : 0 ≤ (x11_3 : Int) := of_decide_eq_true (by first | (with_reducible assumption) | assumption)
                                            have q126 : x11_3 < (t104.length : Int) := of_decide_eq_true (by first | (with_reducible assumption) | assumption)
                                            obtain ⟨ad126, e126, hx126_0⟩ := Kd.at_int (Kd.R_reads' HO_5.out).2.2 x11_3 p126 q126
                                            cases e126
                                            replace p126 := eq_true p126
                                            replace q126 := eq_true q126
                                            have p127 : 0 ≤ ((rd t104 x11_3) : Int) := of_decide_eq_true (by first | (with_reducible assumption) | assumption)
                                            have q127 : (rd t104 x11_3) < (l0_1.length : Int) := of_decide_eq_true (by first | (with_reducible assumption) | assumption)
                                            obtain ⟨ad127, A127_1, c127_1, e127, hx127_0, hx127_1, hl127_1, hi127_1⟩ := at_T26 HR0_1.out (rd t104 x11_3) p127 q127
                                            have hw127_1 := hx127_1
                                            have hw127_0 := hx127_0
                                            cases e127
                                            replace hx127_0 := (HB.out.cell (World.block_lt_of_cell? w _ hx127_0)).trans hx127_0
                                            replace hx127_1 := (HB.out.cell (World.block_lt_of_cell? w _ hx127_1)).trans hx127_1
                                            have HR127_1 := Aside0.mk hi127_1
                                            have HC127_1 := Aside0.mk hl127_1
                                            clear hi127_1 hl127_1
                                            replace p127 := eq_true p127
                                            replace q127 := eq_true q127
                                            refine start_ (n := 16) (S := fun w' => w'.cell? ⟨gb122, 0, none⟩ = some (.int .i64 x123000_3) ∧ w'.cell? ⟨gb122, 1, none⟩ = some (.slice Ao113 x123001_3.length co113) ∧ w'.cell? ⟨gb101, 0, none⟩ = some (.int .i64 a0_0) ∧ w'.cell? ⟨gb101, 1, none⟩ = some (.slice (some ad127) l0_1.length c0_1) ∧ w'.cell? (ad126.add (x11_3).toNat) = some (.int .i64 (rd t104 x11_3)) ∧ w'.cell? (ad127.add (((rd t104 x11_3)).toNat * 2)) = some (.int .i64 ((rd_T26 l0_1 (rd t104 x11_3)).f0)) ∧ w'.cell? ⟨(ad127.add (((rd t104 x11_3)).toNat * 2)).block, (ad127.add (((rd t104 x11_3)).toNat * 2)).off + 1, none⟩ = some (.slice A127_1 ((rd_T26 l0_1 (rd t104 x11_3)).f1).length c127_1)) (ds := []) #[false, false, false, false, false, false, false, false, false, false, false, false, false, false, false, false] (by kernel_rfl) rfl rfl ⟨(blk_cell BK122.out 0).trans rfl, (blk_cell BK122.out 1).trans rfl, (blk_cell BK101.out 0).trans rfl, (blk_cell BK101.out 1).trans rfl, hx126_0, ((HB.out.cell (World.block_lt_of_cell? w _ hw127_0)).trans hw127_0), ((HB.out.cell (World.block_lt_of_cell? w _ hw127_1)).trans hw127_1)⟩ (fun hHeld => ?_); refine with_tabW slopelaw3_BitCovered.tab18 slopelaw3_BitCovered.bits18 (fun HT_ HW_ => ?_)
                                            generalize wc.drew = w114 at HO_5 HO_103001 HO_117001 HO_123001 BK101 BK102 BK116 BK122 HB HR127_1 hx126_0 hx127_0 hx127_1 hHeld ⊢
                                            refine pure_ (i := 1) (N := some 104) (v := ?_) (a' := ?_) #[false, true, false, false, false, false, false, false, false, false, false, false, false, false, false, false] rfl rfl (any_of HT_.out (by kernel_rfl)) (fun _ _ _ h => h) (Or.inl ⟨by rfl, ?_⟩) ?_ ?_
                                            rotate_left
                                            · intro w'
                                              go_simp
                                              with_reducible rfl
                                            rotate_left
                                            · simp only [Act.put, List.setIfInBounds_toArray, List.set_cons_zero, List.set_cons_succ, i64_w, i32_w]
                                              rfl
                                            refine pure_ (i := 3) (N := some 106) (v := ?_) (a' := ?_) #[false, true, false, true, false, false, false, false, false, false, false, false, false, false, false, false] rfl rfl (any_of HT_.out (by kernel_rfl)) (fun _ _ _ h => h) (Or.inl ⟨by rfl, ?_⟩) ?_ ?_
                                            rotate_left
                                            · intro w'
                                              go_simp
                                              with_reducible rfl
                                            rotate_left
                                            · simp only [Act.put, List.setIfInBounds_toArray, List.set_cons_zero, List.set_cons_succ, i64_w, i32_w]
                                              rfl
                                            refine pure_ (i := 4) (N := some 107) (v := ?_) (a' := ?_) #[false, true, false, true, true, false, false, false, false, false, false, false, false, false, false, false] rfl rfl (any_of HT_.out (by kernel_rfl)) (fun _ _ _ h => h) (Or.inl ⟨by rfl, ?_⟩) ?_ ?_
                                            rotate_left
                                            · intro w'
                                              go_simp
                                              with_reducible rfl
                                            rotate_left
                                            · simp only [Act.put, List.setIfInBounds_toArray, List.set_cons_zero, List.set_cons_succ, i64_w, i32_w]
                                              rfl
                                            refine pure_ (i := 5) (N := some 108) (v := ?_) (a' := ?_) #[false, true, false, true, true, true, false, false, false, false, false, false, false, false, false, false] rfl rfl (any_of HT_.out (by kernel_rfl)) (fun _ _ _ h => h) (Or.inl ⟨by rfl, ?_⟩) ?_ ?_
                                            rotate_left
                                            · intro w'
                                              go_simp
                                              with_reducible rfl
                                            rotate_left
                                            · simp only [Act.put, List.setIfInBounds_toArray, List.set_cons_zero, List.set_cons_succ, i64_w, i32_w]
                                              rfl
                                            refine take_ (i := 0) (N := some 103) (v := ?_) (a' := ?_) #[true, true, false, true, true, true, false, false, false, false, false, false, false, false, false, false] rfl rfl (take_ofW HT_.out HW_.out (by kernel_rfl)) (fun _ _ _ h => h) (Or.inl ⟨by rfl, ?_⟩) hHeld ?_ ?_
                                            rotate_left
                                            · rintro w' ⟨s0, s1, s2, s3, s4, s5, s6⟩
                                              go_simp
                                              with_reducible rfl
                                            rotate_left
                                            · simp only [Act.put, List.setIfInBounds_toArray, List.set_cons_zero, List.set_cons_succ, i64_w, i32_w]
                                              rfl
                                            refine take_ (i := 2) (N := some 105) (v := ?_) (a' := ?_) #[true, true, true, true, true, true, false, false, false, false, false, false, false, false, false, false] rfl rfl (take_ofW HT_.out HW_.out (by kernel_rfl)) (fun _ _ _ h => h) (Or.inl ⟨by rfl, ?_⟩) hHeld ?_ ?_
                                            rotate_left
                                            · rintro w' ⟨s0, s1, s2, s3, s4, s5, s6⟩
                                              go_simp
                                              with_reducible rfl
                                            rotate_left
                                            · simp only [Act.put, List.setIfInBounds_toArray, List.set_cons_zero, List.set_cons_succ, i64_w, i32_w]
                                              rfl
                                            refine take_ (i := 6) (N := some 109) (v := ?_) (a' := ?_) #[true, true, true, true, true, true, true, false, false, false, false, false, false, false, false, false] rfl rfl (take_ofW HT_.out HW_.out (by kernel_rfl)) (fun _ _ _ h => h) (Or.inl ⟨by rfl, ?_⟩) hHeld ?_ ?_
                                            rotate_left
                                            · rintro w' ⟨s0, s1, s2, s3, s4, s5, s6⟩
                                              go_simp
                                              with_reducible rfl
                                            rotate_left
                                            · simp only [Act.put, List.setIfInBounds_toArray, List.set_cons_zero, List.set_cons_succ, i64_w, i32_w]
                                              rfl
                                            refine pure_ (i := 7) (N := some 110) (v := ?_) (a' := ?_) #[true, true, true, true, true, true, true, true, false, false, false, false, false, false, false, false] rfl rfl (any_of HT_.out (by kernel_rfl)) (fun _ _ _ h => h) (Or.inl ⟨by rfl, ?_⟩) ?_ ?_
                                            rotate_left
                                            · intro w'
                                              go_simp
                                              with_reducible rfl
                                            rotate_left
                                            · simp only [Act.put, List.setIfInBounds_toArray, List.set_cons_zero, List.set_cons_succ, i64_w, i32_w]
                                              rfl
                                            refine take_ (i := 8) (N := some 111) (v := ?_) (a' := ?_) #[true, true, true, true, true, true, true, true, true, false, false, false, false, false, false, false] rfl rfl (take_ofW HT_.out HW_.out (by kernel_rfl)) (fun _ _ _ h => h) (Or.inl ⟨by rfl, ?_⟩) hHeld ?_ ?_
                                            rotate_left
                                            · rintro w' ⟨s0, s1, s2, s3, s4, s5, s6⟩
                                              go_simp
                                              with_reducible rfl
                                            rotate_left
                                            · simp only [Act.put, List.setIfInBounds_toArray, List.set_cons_zero, List.set_cons_succ, i64_w, i32_w]
                                              rfl
                                            refine join_ (σ := Value × Nat) 2 #[true, true, true, true, true, true, true, true, true, true, true, true, true, true, false, false] (fun s_ => [(112, .tuple #[.agg #[.int .i64 t128, s_.1], .int .i64 t132]), (12, .pointer (some ⟨s_.2, 0, none⟩)), (102, .tuple #[.agg #[.int .i64 t128, s_.1], .int .i64 t132]), (113, .agg #[.int .i64 t128, s_.1]), (114, .int .i64 t132)]) (fun s_ w' => (w'.cell? ⟨gb122, 0, none⟩ = some (.int .i64 x123000_3) ∧ w'.cell? ⟨gb122, 1, none⟩ = some (.slice Ao113 x123001_3.length co113) ∧ w'.cell? ⟨gb101, 0, none⟩ = some (.int .i64 a0_0) ∧ w'.cell? ⟨gb101, 1, none⟩ = some (.slice (some ad127) l0_1.length c0_1) ∧ w'.cell? (ad126.add (x11_3).toNat) = some (.int .i64 (rd t104 x11_3)) ∧ w'.cell? (ad127.add (((rd t104 x11_3)).toNat * 2)) = some (.int .i64 ((rd_T26 l0_1 (rd t104 x11_3)).f0)) ∧ w'.cell? ⟨(ad127.add (((rd t104 x11_3)).toNat * 2)).block, (ad127.add (((rd t104 x11_3)).toNat * 2)).off + 1, none⟩ = some (.slice A127_1 ((rd_T26 l0_1 (rd t104 x11_3)).f1).length c127_1)) ∧ (Kd.R (Kd.int .u64) 82 w' w.heap.size (fun k_ => (w.heap.size ≤ k_) ∧ some k_ ≠ (.slice Ao46 t112.length co46 : Value).ownBlock) s_.1 t129) ∧ (Kd.V (Kd.int .u64) 82 w' w.heap.size (fun k_ => (P1_1_ k_ ∨ w.heap.size ≤ k_) ∧ some k_ ≠ (s_.1 : Value).ownBlock ∧ some k_ ≠ (.slice Ao46 t112.length co46 : Value).ownBlock ∧ some k_ ≠ (.slice (some ad126) t104.length co72 : Value).ownBlock ∧ k_ ≠ gb101 ∧ k_ ≠ gb102 ∧ k_ ≠ gb116 ∧ k_ ≠ gb122 ∧ k_ ≠ s_.2) (.slice A1_1 l1_1.length c1_1) l1_1) ∧ (Kd.R (Kd.int .u64) 82 w' w.heap.size (fun k_ => (w.heap.size ≤ k_) ∧ some k_ ≠ (s_.1 : Value).ownBlock) (.slice Ao46 t112.length co46) t112) ∧ (Kd.V (Kd.int .u64) 82 w' w.heap.size (fun k_ => (P1_1_ k_ ∨ w.heap.size ≤ k_) ∧ some k_ ≠ (s_.1 : Value).ownBlock ∧ some k_ ≠ (.slice Ao46 t112.length co46 : Value).ownBlock ∧ some k_ ≠ (.slice (some ad126) t104.length co72 : Value).ownBlock ∧ k_ ≠ gb101 ∧ k_ ≠ gb102 ∧ k_ ≠ gb116 ∧ k_ ≠ gb122 ∧ k_ ≠ s_.2) (.slice Ao113 x123001_3.length co113) x123001_3) ∧ (Kd.R (Kd.int .i64) 3 w' w.heap.size (fun k_ => (w.heap.size ≤ k_)) (.slice (some ad126) t104.length co72) t104) ∧ (w'.heap[gb101]? = some (.cells #[.int .i64 a0_0, .slice (some ad127) l0_1.length c0_1] 40 (0, 0))) ∧ (w'.heap[gb102]? = some (.cells #[.int .i64 a1_0, .slice A1_1 l1_1.length c1_1] 26 (0, 0))) ∧ (w'.heap[gb116]? = some (.cells #[.int .i64 t111, .slice Ao46 t112.length co46] 26 (0, 0))) ∧ (w'.heap[gb122]? = some (.cells #[.int .i64 x123000_3, .slice Ao113 x123001_3.length co113] 26 (0, 0))) ∧ (w'.heap[s_.2]? = some (.cells #[.int .i64 0, .slice none 0 0] 26 (0, 0))) ∧ (w.heap.size ≤ s_.2) ∧ (w.heap.size ≤ s_.2) ∧ (gb101 ≠ s_.2) ∧ (s_.2 ≠ gb101) ∧ (gb102 ≠ s_.2) ∧ (s_.2 ≠ gb102) ∧ (gb116 ≠ s_.2) ∧ (s_.2 ≠ gb116) ∧ (gb122 ≠ s_.2) ∧ (s_.2 ≠ gb122) ∧ (Below w.heap.size w w')) ?_ ?_
                                            rotate_left
                                            · intro hCont
                                              refine two_ (i := 9) (j := 13) (Ni := some 112) (Nj := some 12) #[true, true, true, true, true, true, true, true, true, true, false, false, false, false, false, false] #[true, true, true, true, true, true, true, true, true, false, false, false, false, true, false, false] rfl rfl rfl rfl (two_of HT_.out (by kernel_rfl)) (by decide) (by decide) (fun K hK => ?_) (fun K hK => ?_)
                                              · skip
                                                refine goes_ Try.func41 (by kernel_rfl) rfl #[.agg #[.int .i64 x123000_3, .slice Ao113 x123001_3.length co113], .agg #[.int .i64 ((rd_T26 l0_1 (rd t104 x11_3)).f0), .slice A127_1 ((rd_T26 l0_1 (rd t104 x11_3)).f1).length c127_1]] (by rfl) rfl rfl (by (try simp only [List.map_toArray, List.map_cons, List.map_nil]); first | done | rfl | (simp only [List.length_drop, List.length_take]; rfl)) ?_
                                                with_reducible refine (bitset_Minus.calls kj70 x123000_3 _ _ x123001_3 ((rd_T26 l0_1 (rd t104 x11_3)).f0) _ _ ((rd_T26 l0_1 (rd t104 x11_3)).f1) t128 t129 t132 _ ?side1 ?side2 ?side3 ?side4 A82.out).mono ?_
                                                (case side1 => repeat (first | exact (Kd.V_reads' HO_123001.out).2.2 | (with_reducible refine Kd.C_alloc ?_ _) | (with_reducible refine Kd.C_drewN ?_ _) | (with_reducible refine Kd.C_drew ?_)))
                                                (case side2 => exact (Kd.V_reads' HO_123001.out).2.1)
                                                (case side3 => repeat (first | exact (Kd.C_below HR127_1.out HB.out) | (with_reducible refine Kd.C_alloc ?_ _) | (with_reducible refine Kd.C_drewN ?_ _) | (with_reducible refine Kd.C_drew ?_)))
                                                (case side4 => exact HC127_1.out)
                                                rintro e w115 ⟨v130, rfl, ho0, hb⟩
                                                have HS4_ := (hb.cell (World.block_lt_of_cell? _ _ (hHeld.2.2.2.2.1))).trans (hHeld.2.2.2.2.1)
                                                refine ⟨_, rfl, ?_⟩
                                                have n0_ := Aside0.mk (Kd.R_below (by (with_reducible repeat (first | apply Kd.R_alloc | apply Kd.R_drewN | apply Kd.R_drew)); exact HO_5.out) hb)
                                                have n1_ := Aside0.mk (Kd.V_elder' (by (with_reducible repeat (first | apply Kd.V_alloc | apply Kd.V_drewN | apply Kd.V_drew)); exact HO_103001.out) (Kd.R_base ho0) hb)
                                                have n2_ := Aside0.mk (Kd.R_elder' (by (with_reducible repeat (first | apply Kd.R_alloc | apply Kd.R_drewN | apply Kd.R_drew)); exact HO_117001.out) (Kd.R_base ho0) hb)
                                                have n3_ := Aside0.mk (Kd.V_elder' (by (with_reducible repeat (first | apply Kd.V_alloc | apply Kd.V_drewN | apply Kd.V_drew)); exact HO_123001.out) (Kd.R_base ho0) hb)
                                                have n4_ := Aside0.mk (Kd.R_lower (Kd.R_new' (Kd.R_newM (M := fun k_ => (w.heap.size ≤ k_)) ho0 (below_size (by repeat (first | (with_reducible first | exact HB.out | apply below_alloc | apply pw_below_drewN | apply below_drew1 | refine below_set ?_ GE101.out | refine below_set ?_ GE102.out | refine below_set ?_ GE116.out | refine below_set ?_ GE122.out) | exact HB.out))) (fun k_ h_ => h_)) (Kd.R_lt (by (with_reducible repeat (first | apply Kd.R_alloc | apply Kd.R_drewN | apply Kd.R_drew)); exact HO_117001.out))) (below_size (by repeat (first | (with_reducible first | exact HB.out | apply below_alloc | apply pw_below_drewN | apply below_drew1 | refine below_set ?_ GE101.out | refine below_set ?_ GE102.out | refine below_set ?_ GE116.out | refine below_set ?_ GE122.out) | exact HB.out))))
                                                have n5_ := Aside0.mk (blk_below (g := gb101) (o := .cells #[.int .i64 a0_0, .slice (some ad127) l0_1.length c0_1] 40 (0, 0)) (by (with_reducible repeat (first | refine blk_drewN ?_ _ | refine blk_drew ?_ | refine blk_alloc ?_ _)); exact BK101.out) hb)
                                                have n6_ := Aside0.mk (blk_below (g := gb102) (o := .cells #[.int .i64 a1_0, .slice A1_1 l1_1.length c1_1] 26 (0, 0)) (by (with_reducible repeat (first | refine blk_drewN ?_ _ | refine blk_drew ?_ | refine blk_alloc ?_ _)); exact BK102.out) hb)
                                                have n7_ := Aside0.mk (blk_below (g := gb116) (o := .cells #[.int .i64 t111, .slice Ao46 t112.length co46] 26 (0, 0)) (by (with_reducible repeat (first | refine blk_drewN ?_ _ | refine blk_drew ?_ | refine blk_alloc ?_ _)); exact BK116.out) hb)
                                                have n8_ := Aside0.mk (blk_below (g := gb122) (o := .cells #[.int .i64 x123000_3, .slice Ao113 x123001_3.length co113] 26 (0, 0)) (by (with_reducible repeat (first | refine blk_drewN ?_ _ | refine blk_drew ?_ | refine blk_alloc ?_ _)); exact BK122.out) hb)
                                                have n9_ := Aside0.mk (below_step (by repeat (first | (with_reducible first | exact HB.out | apply below_alloc | apply pw_below_drewN | apply below_drew1 | refine below_set ?_ GE101.out | refine below_set ?_ GE102.out | refine below_set ?_ GE116.out | refine below_set ?_ GE122.out) | exact HB.out)) hb)
                                                clear HO_5
                                                clear HO_103001
                                                clear HO_117001
                                                clear HO_123001
                                                clear BK101
                                                clear BK102
                                                clear BK116
                                                clear BK122
                                                clear HB
                                                have HO_5 := n0_
                                                have HO_103001 := n1_
                                                have HO_117001 := n2_
                                                have HO_123001 := n3_
                                                have HO131 := n4_
                                                have BK101 := n5_
                                                have BK102 := n6_
                                                have BK116 := n7_
                                                have BK122 := n8_
                                                have HB := n9_
                                                clear n0_ n1_ n2_ n3_ n4_ n5_ n6_ n7_ n8_ n9_
                                                (try clear hb)
                                                (try clear hb2)
                                                (try clear hk)
                                                (try clear hi)
                                                (try clear ho0)
                                                refine hK.out _ _ ⟨(blk_cell BK122.out 0).trans rfl, (blk_cell BK122.out 1).trans rfl, (blk_cell BK101.out 0).trans rfl, (blk_cell BK101.out 1).trans rfl, HS4_, ((HB.out.cell (World.block_lt_of_cell? w _ hw127_0)).trans hw127_0), ((HB.out.cell (World.block_lt_of_cell? w _ hw127_1)).trans hw127_1)⟩ (fun hHeld => ?_)
                                                clear hK K
                                                refine norm_ (a' := ?_) ?_ ?_
                                                rotate_left
                                                · show Act.put _ (some 112) _ = _
                                                  simp only [Act.put, List.setIfInBounds_toArray, List.set_cons_zero, List.set_cons_succ, i64_w, i32_w]
                                                  rfl
                                                refine pure_ (i := 10) (N := some 102) (v := ?_) (a' := ?_) #[true, true, true, true, true, true, true, true, true, true, true, false, false, false, false, false] rfl rfl (any_of HT_.out (by kernel_rfl)) (fun _ _ _ h => h) (Or.inl ⟨by rfl, ?_⟩) ?_ ?_
                                                rotate_left
                                                · intro w'
                                                  go_simp
                                                  with_reducible rfl
                                                rotate_left
                                                · simp only [Act.put, List.setIfInBounds_toArray, List.set_cons_zero, List.set_cons_succ, i64_w, i32_w]
                                                  rfl
                                                refine pure_ (i := 11) (N := some 113) (v := ?_) (a' := ?_) #[true, true, true, true, true, true, true, true, true, true, true, true, false, false, false, false] rfl rfl (any_of HT_.out (by kernel_rfl)) (fun _ _ _ h => h) (Or.inl ⟨by rfl, ?_⟩) ?_ ?_
                                                rotate_left
                                                · intro w'
                                                  go_simp
                                                  with_reducible rfl
                                                rotate_left
                                                · simp only [Act.put, List.setIfInBounds_toArray, List.set_cons_zero, List.set_cons_succ, i64_w, i32_w]
                                                  rfl
                                                refine pure_ (i := 12) (N := some 114) (v := ?_) (a' := ?_) #[true, true, true, true, true, true, true, true, true, true, true, true, true, false, false, false] rfl rfl (any_of HT_.out (by kernel_rfl)) (fun _ _ _ h => h) (Or.inl ⟨by rfl, ?_⟩) ?_ ?_
                                                rotate_left
                                                · intro w'
                                                  go_simp
                                                  with_reducible rfl
                                                rotate_left
                                                · simp only [Act.put, List.setIfInBounds_toArray, List.set_cons_zero, List.set_cons_succ, i64_w, i32_w]
                                                  rfl
                                                refine one_ (i := 13) (N := some 12) #[true, true, true, true, true, true, true, true, true, true, true, true, true, true, false, false] rfl rfl (one_of HT_.out (by kernel_rfl)) (by decide) (fun K hK => ?_)
                                                refine box_step ?hg (N := 12) ?hd (cs := #[.int .i64 0, .slice none 0 0]) (t := 26) ?hr ?_; (case hd => rfl); (case hg => rfl); (case hr => first | (go_simp; done) | (go_simp; rfl))
                                                intro gb133 hg w116 hbox hb
                                                have HS4_ := (hb.cell (World.block_lt_of_cell? _ _ (hHeld.2.2.2.2.1))).trans (hHeld.2.2.2.2.1)
                                                have n0_ := Aside0.mk (Kd.R_below (by (with_reducible repeat (first | apply Kd.R_alloc | apply Kd.R_drewN | apply Kd.R_drew)); exact HO_5.out) hb)
                                                have n1_ := Aside0.mk (Kd.V_below (Kd.V_elderB (by (with_reducible repeat (first | apply Kd.V_alloc | apply Kd.V_drewN | apply Kd.V_drew)); exact HO_103001.out) gb133 (Nat.le_of_eq hg.symm)) hb)
                                                have n2_ := Aside0.mk (Kd.R_below (by (with_reducible repeat (first | apply Kd.R_alloc | apply Kd.R_drewN | apply Kd.R_drew)); exact HO_117001.out) hb)
                                                have n3_ := Aside0.mk (Kd.V_below (Kd.V_elderB (by (with_reducible repeat (first | apply Kd.V_alloc | apply Kd.V_drewN | apply Kd.V_drew)); exact HO_123001.out) gb133 (Nat.le_of_eq hg.symm)) hb)
                                                have n4_ := Aside0.mk (Kd.R_below (by (with_reducible repeat (first | apply Kd.R_alloc | apply Kd.R_drewN | apply Kd.R_drew)); exact HO131.out) hb)
                                                have n5_ := Aside0.mk (blk_below (g := gb101) (o := .cells #[.int .i64 a0_0, .slice (some ad127) l0_1.length c0_1] 40 (0, 0)) (by (with_reducible repeat (first | refine blk_drewN ?_ _ | refine blk_drew ?_ | refine blk_alloc ?_ _)); exact BK101.out) hb)
                                                have n6_ := Aside0.mk (blk_below (g := gb102) (o := .cells #[.int .i64 a1_0, .slice A1_1 l1_1.length c1_1] 26 (0, 0)) (by (with_reducible repeat (first | refine blk_drewN ?_ _ | refine blk_drew ?_ | refine blk_alloc ?_ _)); exact BK102.out) hb)
                                                have n7_ := Aside0.mk (blk_below (g := gb116) (o := .cells #[.int .i64 t111, .slice Ao46 t112.length co46] 26 (0, 0)) (by (with_reducible repeat (first | refine blk_drewN ?_ _ | refine blk_drew ?_ | refine blk_alloc ?_ _)); exact BK116.out) hb)
                                                have n8_ := Aside0.mk (blk_below (g := gb122) (o := .cells #[.int .i64 x123000_3, .slice Ao113 x123001_3.length co113] 26 (0, 0)) (by (with_reducible repeat (first | refine blk_drewN ?_ _ | refine blk_drew ?_ | refine blk_alloc ?_ _)); exact BK122.out) hb)
                                                have n9_ := Aside0.mk (below_step (by repeat (first | (with_reducible first | exact HB.out | apply below_alloc | apply pw_below_drewN | apply below_drew1 | refine below_set ?_ GE101.out | refine below_set ?_ GE102.out | refine below_set ?_ GE116.out | refine below_set ?_ GE122.out) | exact HB.out)) hb)
                                                have n10_ := Aside0.mk (hbox)
                                                have n11_ := Aside0.mk ((by rw [hg]; exact (below_size (by repeat (first | (with_reducible first | exact HB.out | apply below_alloc | apply pw_below_drewN | apply below_drew1 | refine below_set ?_ GE101.out | refine below_set ?_ GE102.out | refine below_set ?_ GE116.out | refine below_set ?_ GE122.out) | exact HB.out))) : w.heap.size ≤ gb133))
                                                have n12_ := Aside0.mk ((by rw [hg]; exact (below_size (by repeat (first | (with_reducible first | exact HB.out | apply below_alloc | apply pw_below_drewN | apply below_drew1 | refine below_set ?_ GE101.out | refine below_set ?_ GE102.out | refine below_set ?_ GE116.out | refine below_set ?_ GE122.out) | exact HB.out))) : w.heap.size ≤ gb133))
                                                have n13_ := Aside0.mk ((by rw [hg]; exact Nat.ne_of_lt (blk_lt (g := gb101) (o := .cells #[.int .i64 a0_0, .slice (some ad127) l0_1.length c0_1] 40 (0, 0)) (by (with_reducible repeat (first | refine blk_drewN ?_ _ | refine blk_drew ?_ | refine blk_alloc ?_ _)); exact BK101.out)) : gb101 ≠ gb133))
                                                have n14_ := Aside0.mk ((by rw [hg]; exact Nat.ne_of_gt (blk_lt (g := gb101) (o := .cells #[.int .i64 a0_0, .slice (some ad127) l0_1.length c0_1] 40 (0, 0)) (by (with_reducible repeat (first | refine blk_drewN ?_ _ | refine blk_drew ?_ | refine blk_alloc ?_ _)); exact BK101.out)) : gb133 ≠ gb101))
                                                have n15_ := Aside0.mk ((by rw [hg]; exact Nat.ne_of_lt (blk_lt (g := gb102) (o := .cells #[.int .i64 a1_0, .slice A1_1 l1_1.length c1_1] 26 (0, 0)) (by (with_reducible repeat (first | refine blk_drewN ?_ _ | refine blk_drew ?_ | refine blk_alloc ?_ _)); exact BK102.out)) : gb102 ≠ gb133))
                                                have n16_ := Aside0.mk ((by rw [hg]; exact Nat.ne_of_gt (blk_lt (g := gb102) (o := .cells #[.int .i64 a1_0, .slice A1_1 l1_1.length c1_1] 26 (0, 0)) (by (with_reducible repeat (first | refine blk_drewN ?_ _ | refine blk_drew ?_ | refine blk_alloc ?_ _)); exact BK102.out)) : gb133 ≠ gb102))
                                                have n17_ := Aside0.mk ((by rw [hg]; exact Nat.ne_of_lt (blk_lt (g := gb116) (o := .cells #[.int .i64 t111, .slice Ao46 t112.length co46] 26 (0, 0)) (by (with_reducible repeat (first | refine blk_drewN ?_ _ | refine blk_drew ?_ | refine blk_alloc ?_ _)); exact BK116.out)) : gb116 ≠ gb133))
                                                have n18_ := Aside0.mk ((by rw [hg]; exact Nat.ne_of_gt (blk_lt (g := gb116) (o := .cells #[.int .i64 t111, .slice Ao46 t112.length co46] 26 (0, 0)) (by (with_reducible repeat (first | refine blk_drewN ?_ _ | refine blk_drew ?_ | refine blk_alloc ?_ _)); exact BK116.out)) : gb133 ≠ gb116))
                                                have n19_ := Aside0.mk ((by rw [hg]; exact Nat.ne_of_lt (blk_lt (g := gb122) (o := .cells #[.int .i64 x123000_3, .slice Ao113 x123001_3.length co113] 26 (0, 0)) (by (with_reducible repeat (first | refine blk_drewN ?_ _ | refine blk_drew ?_ | refine blk_alloc ?_ _)); exact BK122.out)) : gb122 ≠ gb133))
                                                have n20_ := Aside0.mk ((by rw [hg]; exact Nat.ne_of_gt (blk_lt (g := gb122) (o := .cells #[.int .i64 x123000_3, .slice Ao113 x123001_3.length co113] 26 (0, 0)) (by (with_reducible repeat (first | refine blk_drewN ?_ _ | refine blk_drew ?_ | refine blk_alloc ?_ _)); exact BK122.out)) : gb133 ≠ gb122))
                                                clear HO_5
                                                clear HO_103001
                                                clear HO_117001
                                                clear HO_123001
                                                clear HO131
                                                clear BK101
                                                clear BK102
                                                clear BK116
                                                clear BK122
                                                clear HB
                                                have HO_5 := n0_
                                                have HO_103001 := n1_
                                                have HO_117001 := n2_
                                                have HO_123001 := n3_
                                                have HO131 := n4_
                                                have BK101 := n5_
                                                have BK102 := n6_
                                                have BK116 := n7_
                                                have BK122 := n8_
                                                have HB := n9_
                                                have BK133 := n10_
                                                have GW133 := n11_
                                                have GE133 := n12_
                                                have NB101_133 := n13_
                                                have NB133_101 := n14_
                                                have NB102_133 := n15_
                                                have NB133_102 := n16_
                                                have NB116_133 := n17_
                                                have NB133_116 := n18_
                                                have NB122_133 := n19_
                                                have NB133_122 := n20_
                                                clear n0_ n1_ n2_ n3_ n4_ n5_ n6_ n7_ n8_ n9_ n10_ n11_ n12_ n13_ n14_ n15_ n16_ n17_ n18_ n19_ n20_
                                                clear hb hbox hg
                                                refine hK.out _ _ ⟨(blk_cell BK122.out 0).trans rfl, (blk_cell BK122.out 1).trans rfl, (blk_cell BK101.out 0).trans rfl, (blk_cell BK101.out 1).trans rfl, HS4_, ((HB.out.cell (World.block_lt_of_cell? w _ hw127_0)).trans hw127_0), ((HB.out.cell (World.block_lt_of_cell? w _ hw127_1)).trans hw127_1)⟩ (fun hHeld => ?_)
                                                clear hK K
                                                refine norm_ (a' := ?_) ?_ ?_
                                                rotate_left
                                                · show Act.put _ (some 12) _ = _
                                                  simp only [Act.put, List.setIfInBounds_toArray, List.set_cons_zero, List.set_cons_succ, i64_w, i32_w]
                                                  rfl
                                                exact norm_ (by simp only [putAll, Act.put, List.setIfInBounds_toArray, List.set_cons_zero, List.set_cons_succ]) (hCont (v130, gb133) _ ⟨hHeld, (by (with_reducible repeat (first | apply Kd.R_alloc | apply Kd.R_drewN | apply Kd.R_drew)); exact Kd.R_mono HO131.out (fun _ hk => ⟨hk.1.1, hk.2⟩)), (by (with_reducible repeat (first | apply Kd.V_alloc | apply Kd.V_drewN | apply Kd.V_drew)); exact Kd.V_mono HO_103001.out (fun _ hk => ⟨hk.1.1.1, ⟨hk.1.2, ⟨hk.1.1.2.2.1, ⟨hk.1.1.2.1, ⟨hk.1.1.2.2.2.1, ⟨hk.1.1.2.2.2.2.1, ⟨hk.1.1.2.2.2.2.2.1, ⟨hk.1.1.2.2.2.2.2.2, hk.2⟩⟩⟩⟩⟩⟩⟩⟩)), (by (with_reducible repeat (first | apply Kd.R_alloc | apply Kd.R_drewN | apply Kd.R_drew)); exact HO_117001.out), (by (with_reducible repeat (first | apply Kd.V_alloc | apply Kd.V_drewN | apply Kd.V_drew)); exact Kd.V_mono HO_123001.out (fun _ hk => ⟨hk.1.1.1, ⟨hk.1.2, ⟨hk.1.1.2.2.1, ⟨hk.1.1.2.1, ⟨hk.1.1.2.2.2.1, ⟨hk.1.1.2.2.2.2.1, ⟨hk.1.1.2.2.2.2.2.1, ⟨hk.1.1.2.2.2.2.2.2, hk.2⟩⟩⟩⟩⟩⟩⟩⟩)), (by (with_reducible repeat (first | apply Kd.R_alloc | apply Kd.R_drewN | apply Kd.R_drew)); exact HO_5.out), (by (with_reducible repeat (first | refine blk_drewN ?_ _ | refine blk_drew ?_ | refine blk_alloc ?_ _)); exact BK101.out), (by (with_reducible repeat (first | refine blk_drewN ?_ _ | refine blk_drew ?_ | refine blk_alloc ?_ _)); exact BK102.out), (by (with_reducible repeat (first | refine blk_drewN ?_ _ | refine blk_drew ?_ | refine blk_alloc ?_ _)); exact BK116.out), (by (with_reducible repeat (first | refine blk_drewN ?_ _ | refine blk_drew ?_ | refine blk_alloc ?_ _)); exact BK122.out), (by (with_reducible repeat (first | refine blk_drewN ?_ _ | refine blk_drew ?_ | refine blk_alloc ?_ _)); exact BK133.out), GW133.out, GE133.out, NB101_133.out, NB133_101.out, NB102_133.out, NB133_102.out, NB116_133.out, NB133_116.out, NB122_133.out, NB133_122.out, (by repeat (first | (with_reducible first | exact HB.out | apply below_alloc | apply pw_below_drewN | apply below_drew1 | refine below_set ?_ GE101.out | refine below_set ?_ GE102.out | refine below_set ?_ GE116.out | refine below_set ?_ GE122.out | refine below_set ?_ GE133.out) | exact HB.out))⟩)
                                              · skip
                                                refine box_step ?hg (N := 12) ?hd (cs := #[.int .i64 0, .slice none 0 0]) (t := 26) ?hr ?_; (case hd => rfl); (case hg => rfl); (case hr => first | (go_simp; done) | (go_simp; rfl))
                                                intro gb133 hg w115 hbox hb
                                                have HS4_ := (hb.cell (World.block_lt_of_cell? _ _ (hHeld.2.2.2.2.1))).trans (hHeld.2.2.2.2.1)
                                                have n0_ := Aside0.mk (Kd.R_below (by (with_reducible repeat (first | apply Kd.R_alloc | apply Kd.R_drewN | apply Kd.R_drew)); exact HO_5.out) hb)
                                                have n1_ := Aside0.mk (Kd.V_below (Kd.V_elderB (by (with_reducible repeat (first | apply Kd.V_alloc | apply Kd.V_drewN | apply Kd.V_drew)); exact HO_103001.out) gb133 (Nat.le_of_eq hg.symm)) hb)
                                                have n2_ := Aside0.mk (Kd.R_below (by (with_reducible repeat (first | apply Kd.R_alloc | apply Kd.R_drewN | apply Kd.R_drew)); exact HO_117001.out) hb)
                                                have n3_ := Aside0.mk (Kd.V_below (Kd.V_elderB (by (with_reducible repeat (first | apply Kd.V_alloc | apply Kd.V_drewN | apply Kd.V_drew)); exact HO_123001.out) gb133 (Nat.le_of_eq hg.symm)) hb)
                                                have n4_ := Aside0.mk (blk_below (g := gb101) (o := .cells #[.int .i64 a0_0, .slice (some ad127) l0_1.length c0_1] 40 (0, 0)) (by (with_reducible repeat (first | refine blk_drewN ?_ _ | refine blk_drew ?_ | refine blk_alloc ?_ _)); exact BK101.out) hb)
                                                have n5_ := Aside0.mk (blk_below (g := gb102) (o := .cells #[.int .i64 a1_0, .slice A1_1 l1_1.length c1_1] 26 (0, 0)) (by (with_reducible repeat (first | refine blk_drewN ?_ _ | refine blk_drew ?_ | refine blk_alloc ?_ _)); exact BK102.out) hb)
                                                have n6_ := Aside0.mk (blk_below (g := gb116) (o := .cells #[.int .i64 t111, .slice Ao46 t112.length co46] 26 (0, 0)) (by (with_reducible repeat (first | refine blk_drewN ?_ _ | refine blk_drew ?_ | refine blk_alloc ?_ _)); exact BK116.out) hb)
                                                have n7_ := Aside0.mk (blk_below (g := gb122) (o := .cells #[.int .i64 x123000_3, .slice Ao113 x123001_3.length co113] 26 (0, 0)) (by (with_reducible repeat (first | refine blk_drewN ?_ _ | refine blk_drew ?_ | refine blk_alloc ?_ _)); exact BK122.out) hb)
                                                have n8_ := Aside0.mk (below_step (by repeat (first | (with_reducible first | exact HB.out | apply below_alloc | apply pw_below_drewN | apply below_drew1 | refine below_set ?_ GE101.out | refine below_set ?_ GE102.out | refine below_set ?_ GE116.out | refine below_set ?_ GE122.out) | exact HB.out)) hb)
                                                have n9_ := Aside0.mk (hbox)
                                                have n10_ := Aside0.mk ((by rw [hg]; exact (below_size (by repeat (first | (with_reducible first | exact HB.out | apply below_alloc | apply pw_below_drewN | apply below_drew1 | refine below_set ?_ GE101.out | refine below_set ?_ GE102.out | refine below_set ?_ GE116.out | refine below_set ?_ GE122.out) | exact HB.out))) : w.heap.size ≤ gb133))
                                                have n11_ := Aside0.mk ((by rw [hg]; exact (below_size (by repeat (first | (with_reducible first | exact HB.out | apply below_alloc | apply pw_below_drewN | apply below_drew1 | refine below_set ?_ GE101.out | refine below_set ?_ GE102.out | refine below_set ?_ GE116.out | refine below_set ?_ GE122.out) | exact HB.out))) : w.heap.size ≤ gb133))
                                                have n12_ := Aside0.mk ((by rw [hg]; exact Nat.ne_of_lt (blk_lt (g := gb101) (o := .cells #[.int .i64 a0_0, .slice (some ad127) l0_1.length c0_1] 40 (0, 0)) (by (with_reducible repeat (first | refine blk_drewN ?_ _ | refine blk_drew ?_ | refine blk_alloc ?_ _)); exact BK101.out)) : gb101 ≠ gb133))
                                                have n13_ := Aside0.mk ((by rw [hg]; exact Nat.ne_of_gt (blk_lt (g := gb101) (o := .cells #[.int .i64 a0_0, .slice (some ad127) l0_1.length c0_1] 40 (0, 0)) (by (with_reducible repeat (first | refine blk_drewN ?_ _ | refine blk_drew ?_ | refine blk_alloc ?_ _)); exact BK101.out)) : gb133 ≠ gb101))
                                                have n14_ := Aside0.mk ((by rw [hg]; exact Nat.ne_of_lt (blk_lt (g := gb102) (o := .cells #[.int .i64 a1_0, .slice A1_1 l1_1.length c1_1] 26 (0, 0)) (by (with_reducible repeat (first | refine blk_drewN ?_ _ | refine blk_drew ?_ | refine blk_alloc ?_ _)); exact BK102.out)) : gb102 ≠ gb133))
                                                have n15_ := Aside0.mk ((by rw [hg]; exact Nat.ne_of_gt (blk_lt (g := gb102) (o := .cells #[.int .i64 a1_0, .slice A1_1 l1_1.length c1_1] 26 (0, 0)) (by (with_reducible repeat (first | refine blk_drewN ?_ _ | refine blk_drew ?_ | refine blk_alloc ?_ _)); exact BK102.out)) : gb133 ≠ gb102))
                                                have n16_ := Aside0.mk ((by rw [hg]; exact Nat.ne_of_lt (blk_lt (g := gb116) (o := .cells #[.int .i64 t111, .slice Ao46 t112.length co46] 26 (0, 0)) (by (with_reducible repeat (first | refine blk_drewN ?_ _ | refine blk_drew ?_ | refine blk_alloc ?_ _)); exact BK116.out)) : gb116 ≠ gb133))
                                                have n17_ := Aside0.mk ((by rw [hg]; exact Nat.ne_of_gt (blk_lt (g := gb116) (o := .cells #[.int .i64 t111, .slice Ao46 t112.length co46] 26 (0, 0)) (by (with_reducible repeat (first | refine blk_drewN ?_ _ | refine blk_drew ?_ | refine blk_alloc ?_ _)); exact BK116.out)) : gb133 ≠ gb116))
                                                have n18_ := Aside0.mk ((by rw [hg]; exact Nat.ne_of_lt (blk_lt (g := gb122) (o := .cells #[.int .i64 x123000_3, .slice Ao113 x123001_3.length co113] 26 (0, 0)) (by (with_reducible repeat (first | refine blk_drewN ?_ _ | refine blk_drew ?_ | refine blk_alloc ?_ _)); exact BK122.out)) : gb122 ≠ gb133))
                                                have n19_ := Aside0.mk ((by rw [hg]; exact Nat.ne_of_gt (blk_lt (g := gb122) (o := .cells #[.int .i64 x123000_3, .slice Ao113 x123001_3.length co113] 26 (0, 0)) (by (with_reducible repeat (first | refine blk_drewN ?_ _ | refine blk_drew ?_ | refine blk_alloc ?_ _)); exact BK122.out)) : gb133 ≠ gb122))
                                                clear HO_5
                                                clear HO_103001
                                                clear HO_117001
                                                clear HO_123001
                                                clear BK101
                                                clear BK102
                                                clear BK116
                                                clear BK122
                                                clear HB
                                                have HO_5 := n0_
                                                have HO_103001 := n1_
                                                have HO_117001 := n2_
                                                have HO_123001 := n3_
                                                have BK101 := n4_
                                                have BK102 := n5_
                                                have BK116 := n6_
                                                have BK122 := n7_
                                                have HB := n8_
                                                have BK133 := n9_
                                                have GW133 := n10_
                                                have GE133 := n11_
                                                have NB101_133 := n12_
                                                have NB133_101 := n13_
                                                have NB102_133 := n14_
                                                have NB133_102 := n15_
                                                have NB116_133 := n16_
                                                have NB133_116 := n17_
                                                have NB122_133 := n18_
                                                have NB133_122 := n19_
                                                clear n0_ n1_ n2_ n3_ n4_ n5_ n6_ n7_ n8_ n9_ n10_ n11_ n12_ n13_ n14_ n15_ n16_ n17_ n18_ n19_
                                                clear hb hbox hg
                                                refine hK.out _ _ ⟨(blk_cell BK122.out 0).trans rfl, (blk_cell BK122.out 1).trans rfl, (blk_cell BK101.out 0).trans rfl, (blk_cell BK101.out 1).trans rfl, HS4_, ((HB.out.cell (World.block_lt_of_cell? w _ hw127_0)).trans hw127_0), ((HB.out.cell (World.block_lt_of_cell? w _ hw127_1)).trans hw127_1)⟩ (fun hHeld => ?_)
                                                clear hK K
                                                refine norm_ (a' := ?_) ?_ ?_
                                                rotate_left
                                                · show Act.put _ (some 12) _ = _
                                                  simp only [Act.put, List.setIfInBounds_toArray, List.set_cons_zero, List.set_cons_succ, i64_w, i32_w]
                                                  rfl
                                                refine one_ (i := 9) (N := some 112) #[true, true, true, true, true, true, true, true, true, true, false, false, false, true, false, false] rfl rfl (one_of HT_.out (by kernel_rfl)) (by decide) (fun K hK => ?_)
                                                refine goes_ Try.func41 (by kernel_rfl) rfl #[.agg #[.int .i64 x123000_3, .slice Ao113 x123001_3.length co113], .agg #[.int .i64 ((rd_T26 l0_1 (rd t104 x11_3)).f0), .slice A127_1 ((rd_T26 l0_1 (rd t104 x11_3)).f1).length c127_1]] (by rfl) rfl rfl (by (try simp only [List.map_toArray, List.map_cons, List.map_nil]); first | done | rfl | (simp only [List.length_drop, List.length_take]; rfl)) ?_
                                                with_reducible refine (bitset_Minus.calls kj70 x123000_3 _ _ x123001_3 ((rd_T26 l0_1 (rd t104 x11_3)).f0) _ _ ((rd_T26 l0_1 (rd t104 x11_3)).f1) t128 t129 t132 _ ?side1 ?side2 ?side3 ?side4 A82.out).mono ?_
                                                (case side1 => repeat (first | exact (Kd.V_reads' HO_123001.out).2.2 | (with_reducible refine Kd.C_alloc ?_ _) | (with_reducible refine Kd.C_drewN ?_ _) | (with_reducible refine Kd.C_drew ?_)))
                                                (case side2 => exact (Kd.V_reads' HO_123001.out).2.1)
                                                (case side3 => repeat (first | exact (Kd.C_below HR127_1.out HB.out) | (with_reducible refine Kd.C_alloc ?_ _) | (with_reducible refine Kd.C_drewN ?_ _) | (with_reducible refine Kd.C_drew ?_)))
                                                (case side4 => exact HC127_1.out)
                                                rintro e w116 ⟨v130, rfl, ho0, hb⟩
                                                have HS4_ := (hb.cell (World.block_lt_of_cell? _ _ (hHeld.2.2.2.2.1))).trans (hHeld.2.2.2.2.1)
                                                refine ⟨_, rfl, ?_⟩
                                                have n0_ := Aside0.mk (Kd.R_below (by (with_reducible repeat (first | apply Kd.R_alloc | apply Kd.R_drewN | apply Kd.R_drew)); exact HO_5.out) hb)
                                                have n1_ := Aside0.mk (Kd.V_elder' (by (with_reducible repeat (first | apply Kd.V_alloc | apply Kd.V_drewN | apply Kd.V_drew)); exact HO_103001.out) (Kd.R_base ho0) hb)
                                                have n2_ := Aside0.mk (Kd.R_elder' (by (with_reducible repeat (first | apply Kd.R_alloc | apply Kd.R_drewN | apply Kd.R_drew)); exact HO_117001.out) (Kd.R_base ho0) hb)
                                                have n3_ := Aside0.mk (Kd.V_elder' (by (with_reducible repeat (first | apply Kd.V_alloc | apply Kd.V_drewN | apply Kd.V_drew)); exact HO_123001.out) (Kd.R_base ho0) hb)
                                                have n4_ := Aside0.mk (Kd.R_lower (Kd.R_new' (Kd.R_newM (M := fun k_ => (w.heap.size ≤ k_)) ho0 (below_size (by repeat (first | (with_reducible first | exact HB.out | apply below_alloc | apply pw_below_drewN | apply below_drew1 | refine below_set ?_ GE101.out | refine below_set ?_ GE102.out | refine below_set ?_ GE116.out | refine below_set ?_ GE122.out | refine below_set ?_ GE133.out) | exact HB.out))) (fun k_ h_ => h_)) (Kd.R_lt (by (with_reducible repeat (first | apply Kd.R_alloc | apply Kd.R_drewN | apply Kd.R_drew)); exact HO_117001.out))) (below_size (by repeat (first | (with_reducible first | exact HB.out | apply below_alloc | apply pw_below_drewN | apply below_drew1 | refine below_set ?_ GE101.out | refine below_set ?_ GE102.out | refine below_set ?_ GE116.out | refine below_set ?_ GE122.out | refine below_set ?_ GE133.out) | exact HB.out))))
                                                have n5_ := Aside0.mk (blk_below (g := gb101) (o := .cells #[.int .i64 a0_0, .slice (some ad127) l0_1.length c0_1] 40 (0, 0)) (by (with_reducible repeat (first | refine blk_drewN ?_ _ | refine blk_drew ?_ | refine blk_alloc ?_ _)); exact BK101.out) hb)
                                                have n6_ := Aside0.mk (blk_below (g := gb102) (o := .cells #[.int .i64 a1_0, .slice A1_1 l1_1.length c1_1] 26 (0, 0)) (by (with_reducible repeat (first | refine blk_drewN ?_ _ | refine blk_drew ?_ | refine blk_alloc ?_ _)); exact BK102.out) hb)
                                                have n7_ := Aside0.mk (blk_below (g := gb116) (o := .cells #[.int .i64 t111, .slice Ao46 t112.length co46] 26 (0, 0)) (by (with_reducible repeat (first | refine blk_drewN ?_ _ | refine blk_drew ?_ | refine blk_alloc ?_ _)); exact BK116.out) hb)
                                                have n8_ := Aside0.mk (blk_below (g := gb122) (o := .cells #[.int .i64 x123000_3, .slice Ao113 x123001_3.length co113] 26 (0, 0)) (by (with_reducible repeat (first | refine blk_drewN ?_ _ | refine blk_drew ?_ | refine blk_alloc ?_ _)); exact BK122.out) hb)
                                                have n9_ := Aside0.mk (blk_below (g := gb133) (o := .cells #[.int .i64 0, .slice none 0 0] 26 (0, 0)) (by (with_reducible repeat (first | refine blk_drewN ?_ _ | refine blk_drew ?_ | refine blk_alloc ?_ _)); exact BK133.out) hb)
                                                have n10_ := Aside0.mk (below_step (by repeat (first | (with_reducible first | exact HB.out | apply below_alloc | apply pw_below_drewN | apply below_drew1 | refine below_set ?_ GE101.out | refine below_set ?_ GE102.out | refine below_set ?_ GE116.out | refine below_set ?_ GE122.out | refine below_set ?_ GE133.out) | exact HB.out)) hb)
                                                clear HO_5
                                                clear HO_103001
                                                clear HO_117001
                                                clear HO_123001
                                                clear BK101
                                                clear BK102
                                                clear BK116
                                                clear BK122
                                                clear BK133
                                                clear HB
                                                have HO_5 := n0_
                                                have HO_103001 := n1_
                                                have HO_117001 := n2_
                                                have HO_123001 := n3_
                                                have HO131 := n4_
                                                have BK101 := n5_
                                                have BK102 := n6_
                                                have BK116 := n7_
                                                have BK122 := n8_
                                                have BK133 := n9_
                                                have HB := n10_
                                                clear n0_ n1_ n2_ n3_ n4_ n5_ n6_ n7_ n8_ n9_ n10_
                                                (try clear hb)
                                                (try clear hb2)
                                                (try clear hk)
                                                (try clear hi)
                                                (try clear ho0)
                                                refine hK.out _ _ ⟨(blk_cell BK122.out 0).trans rfl, (blk_cell BK122.out 1).trans rfl, (blk_cell BK101.out 0).trans rfl, (blk_cell BK101.out 1).trans rfl, HS4_, ((HB.out.cell (World.block_lt_of_cell? w _ hw127_0)).trans hw127_0), ((HB.out.cell (World.block_lt_of_cell? w _ hw127_1)).trans hw127_1)⟩ (fun hHeld => ?_)
                                                clear hK K
                                                refine norm_ (a' := ?_) ?_ ?_
                                                rotate_left
                                                · show Act.put _ (some 112) _ = _
                                                  simp only [Act.put, List.setIfInBounds_toArray, List.set_cons_zero, List.set_cons_succ, i64_w, i32_w]
                                                  rfl
                                                refine pure_ (i := 10) (N := some 102) (v := ?_) (a' := ?_) #[true, true, true, true, true, true, true, true, true, true, true, false, false, true, false, false] rfl rfl (any_of HT_.out (by kernel_rfl)) (fun _ _ _ h => h) (Or.inl ⟨by rfl, ?_⟩) ?_ ?_
                                                rotate_left
                                                · intro w'
                                                  go_simp
                                                  with_reducible rfl
                                                rotate_left
                                                · simp only [Act.put, List.setIfInBounds_toArray, List.set_cons_zero, List.set_cons_succ, i64_w, i32_w]
                                                  rfl
                                                refine pure_ (i := 11) (N := some 113) (v := ?_) (a' := ?_) #[true, true, true, true, true, true, true, true, true, true, true, true, false, true, false, false] rfl rfl (any_of HT_.out (by kernel_rfl)) (fun _ _ _ h => h) (Or.inl ⟨by rfl, ?_⟩) ?_ ?_
                                                rotate_left
                                                · intro w'
                                                  go_simp
                                                  with_reducible rfl
                                                rotate_left
                                                · simp only [Act.put, List.setIfInBounds_toArray, List.set_cons_zero, List.set_cons_succ, i64_w, i32_w]
                                                  rfl
                                                refine pure_ (i := 12) (N := some 114) (v := ?_) (a' := ?_) #[true, true, true, true, true, true, true, true, true, true, true, true, true, true, false, false] rfl rfl (any_of HT_.out (by kernel_rfl)) (fun _ _ _ h => h) (Or.inl ⟨by rfl, ?_⟩) ?_ ?_
                                                rotate_left
                                                · intro w'
                                                  go_simp
                                                  with_reducible rfl
                                                rotate_left
                                                · simp only [Act.put, List.setIfInBounds_toArray, List.set_cons_zero, List.set_cons_succ, i64_w, i32_w]
                                                  rfl
                                                exact norm_ (by simp only [putAll, Act.put, List.setIfInBounds_toArray, List.set_cons_zero, List.set_cons_succ]) (hCont (v130, gb133) _ ⟨hHeld, (by (with_reducible repeat (first | apply Kd.R_alloc | apply Kd.R_drewN | apply Kd.R_drew)); exact Kd.R_mono HO131.out (fun _ hk => ⟨hk.1.1, hk.2⟩)), (by (with_reducible repeat (first | apply Kd.V_alloc | apply Kd.V_drewN | apply Kd.V_drew)); exact Kd.V_mono HO_103001.out (fun _ hk => ⟨hk.1.1.1, ⟨hk.2, ⟨hk.1.1.2.2.1, ⟨hk.1.1.2.1, ⟨hk.1.1.2.2.2.1, ⟨hk.1.1.2.2.2.2.1, ⟨hk.1.1.2.2.2.2.2.1, ⟨hk.1.1.2.2.2.2.2.2, hk.1.2⟩⟩⟩⟩⟩⟩⟩⟩)), (by (with_reducible repeat (first | apply Kd.R_alloc | apply Kd.R_drewN | apply Kd.R_drew)); exact HO_117001.out), (by (with_reducible repeat (first | apply Kd.V_alloc | apply Kd.V_drewN | apply Kd.V_drew)); exact Kd.V_mono HO_123001.out (fun _ hk => ⟨hk.1.1.1, ⟨hk.2, ⟨hk.1.1.2.2.1, ⟨hk.1.1.2.1, ⟨hk.1.1.2.2.2.1, ⟨hk.1.1.2.2.2.2.1, ⟨hk.1.1.2.2.2.2.2.1, ⟨hk.1.1.2.2.2.2.2.2, hk.1.2⟩⟩⟩⟩⟩⟩⟩⟩)), (by (with_reducible repeat (first | apply Kd.R_alloc | apply Kd.R_drewN | apply Kd.R_drew)); exact HO_5.out), (by (with_reducible repeat (first | refine blk_drewN ?_ _ | refine blk_drew ?_ | refine blk_alloc ?_ _)); exact BK101.out), (by (with_reducible repeat (first | refine blk_drewN ?_ _ | refine blk_drew ?_ | refine blk_alloc ?_ _)); exact BK102.out), (by (with_reducible repeat (first | refine blk_drewN ?_ _ | refine blk_drew ?_ | refine blk_alloc ?_ _)); exact BK116.out), (by (with_reducible repeat (first | refine blk_drewN ?_ _ | refine blk_drew ?_ | refine blk_alloc ?_ _)); exact BK122.out), (by (with_reducible repeat (first | refine blk_drewN ?_ _ | refine blk_drew ?_ | refine blk_alloc ?_ _)); exact BK133.out), GW133.out, GE133.out, NB101_133.out, NB133_101.out, NB102_133.out, NB133_102.out, NB116_133.out, NB133_116.out, NB122_133.out, NB133_122.out, (by repeat (first | (with_reducible first | exact HB.out | apply below_alloc | apply pw_below_drewN | apply below_drew1 | refine below_set ?_ GE101.out | refine below_set ?_ GE102.out | refine below_set ?_ GE116.out | refine below_set ?_ GE122.out | refine below_set ?_ GE133.out) | exact HB.out))⟩)
                                            rintro ⟨v130, gb133⟩ w117 ⟨hS_, h0_, h1_, h2_, h3_, h4_, h5_, h6_, h7_, h8_, h9_, h10_, h11_, h12_, h13_, h14_, h15_, h16_, h17_, h18_, h19_, h20_⟩
                                            have n0_ : Aside0 (Kd.R (Kd.int .u64) 82 w117 w.heap.size (fun k_ => (w.heap.size ≤ k_) ∧ some k_ ≠ (.slice Ao46 t112.length co46 : Value).ownBlock) v130 t129) := ⟨h0_⟩
                                            have n1_ : Aside0 (Kd.V (Kd.int .u64) 82 w117 w.heap.size (fun k_ => (P1_1_ k_ ∨ w.heap.size ≤ k_) ∧ some k_ ≠ (v130 : Value).ownBlock ∧ some k_ ≠ (.slice Ao46 t112.length co46 : Value).ownBlock ∧ some k_ ≠ (.slice (some ad126) t104.length co72 : Value).ownBlock ∧ k_ ≠ gb101 ∧ k_ ≠ gb102 ∧ k_ ≠ gb116 ∧ k_ ≠ gb122 ∧ k_ ≠ gb133) (.slice A1_1 l1_1.length c1_1) l1_1) := ⟨h1_⟩
                                            have n2_ : Aside0 (Kd.R (Kd.int .u64) 82 w117 w.heap.size (fun k_ => (w.heap.size ≤ k_) ∧ some k_ ≠ (v130 : Value).ownBlock) (.slice Ao46 t112.length co46) t112) := ⟨h2_⟩
                                            have n3_ : Aside0 (Kd.V (Kd.int .u64) 82 w117 w.heap.size (fun k_ => (P1_1_ k_ ∨ w.heap.size ≤ k_) ∧ some k_ ≠ (v130 : Value).ownBlock ∧ some k_ ≠ (.slice Ao46 t112.length co46 : Value).ownBlock ∧ some k_ ≠ (.slice (some ad126) t104.length co72 : Value).ownBlock ∧ k_ ≠ gb101 ∧ k_ ≠ gb102 ∧ k_ ≠ gb116 ∧ k_ ≠ gb122 ∧ k_ ≠ gb133) (.slice Ao113 x123001_3.length co113) x123001_3) := ⟨h3_⟩
                                            have n4_ : Aside0 (Kd.R (Kd.int .i64) 3 w117 w.heap.size (fun k_ => (w.heap.size ≤ k_)) (.slice (some ad126) t104.length co72) t104) := ⟨h4_⟩
                                            have n5_ : Aside0 (w117.heap[gb101]? = some (.cells #[.int .i64 a0_0, .slice (some ad127) l0_1.length c0_1] 40 (0, 0))) := ⟨h5_⟩
                                            have n6_ : Aside0 (w117.heap[gb102]? = some (.cells #[.int .i64 a1_0, .slice A1_1 l1_1.length c1_1] 26 (0, 0))) := ⟨h6_⟩
                                            have n7_ : Aside0 (w117.heap[gb116]? = some (.cells #[.int .i64 t111, .slice Ao46 t112.length co46] 26 (0, 0))) := ⟨h7_⟩
                                            have n8_ : Aside0 (w117.heap[gb122]? = some (.cells #[.int .i64 x123000_3, .slice Ao113 x123001_3.length co113] 26 (0, 0))) := ⟨h8_⟩
                                            have n9_ : Aside0 (w117.heap[gb133]? = some (.cells #[.int .i64 0, .slice none 0 0] 26 (0, 0))) := ⟨h9_⟩
                                            have n10_ : Aside0 (w.heap.size ≤ gb133) := ⟨h10_⟩
                                            have n11_ : Aside0 (w.heap.size ≤ gb133) := ⟨h11_⟩
                                            have n12_ : Aside0 (gb101 ≠ gb133) := ⟨h12_⟩
                                            have n13_ : Aside0 (gb133 ≠ gb101) := ⟨h13_⟩
                                            have n14_ : Aside0 (gb102 ≠ gb133) := ⟨h14_⟩
                                            have n15_ : Aside0 (gb133 ≠ gb102) := ⟨h15_⟩
                                            have n16_ : Aside0 (gb116 ≠ gb133) := ⟨h16_⟩
                                            have n17_ : Aside0 (gb133 ≠ gb116) := ⟨h17_⟩
                                            have n18_ : Aside0 (gb122 ≠ gb133) := ⟨h18_⟩
                                            have n19_ : Aside0 (gb133 ≠ gb122) := ⟨h19_⟩
                                            have n20_ : Aside0 (Below w.heap.size w w117) := ⟨h20_⟩
                                            clear HO_5
                                            clear HO_103001
                                            clear HO_117001
                                            clear HO_123001
                                            clear BK101
                                            clear BK102
                                            clear BK116
                                            clear BK122
                                            clear HB
                                            clear h0_ h1_ h2_ h3_ h4_ h5_ h6_ h7_ h8_ h9_ h10_ h11_ h12_ h13_ h14_ h15_ h16_ h17_ h18_ h19_ h20_
                                            have HO131 := n0_
                                            have HO_103001 := n1_
                                            have HO_117001 := n2_
                                            have HO_123001 := n3_
                                            have HO_5 := n4_
                                            have BK101 := n5_
                                            have BK102 := n6_
                                            have BK116 := n7_
                                            have BK122 := n8_
                                            have BK133 := n9_
                                            have GW133 := n10_
                                            have GE133 := n11_
                                            have NB101_133 := n12_
                                            have NB133_101 := n13_
                                            have NB102_133 := n14_
                                            have NB133_102 := n15_
                                            have NB116_133 := n16_
                                            have NB133_116 := n17_
                                            have NB122_133 := n18_
                                            have NB133_122 := n19_
                                            have HB := n20_
                                            clear n0_ n1_ n2_ n3_ n4_ n5_ n6_ n7_ n8_ n9_ n10_ n11_ n12_ n13_ n14_ n15_ n16_ n17_ n18_ n19_ n20_
                                            have hHeld : w117.cell? ⟨gb122, 0, none⟩ = some (.int .i64 x123000_3) ∧ w117.cell? ⟨gb122, 1, none⟩ = some (.slice Ao113 x123001_3.length co113) ∧ w117.cell? ⟨gb101, 0, none⟩ = some (.int .i64 a0_0) ∧ w117.cell? ⟨gb101, 1, none⟩ = some (.slice (some ad127) l0_1.length c0_1) ∧ w117.cell? (ad126.add (x11_3).toNat) = some (.int .i64 (rd t104 x11_3)) ∧ w117.cell? (ad127.add (((rd t104 x11_3)).toNat * 2)) = some (.int .i64 ((rd_T26 l0_1 (rd t104 x11_3)).f0)) ∧ w117.cell? ⟨(ad127.add (((rd t104 x11_3)).toNat * 2)).block, (ad127.add (((rd t104 x11_3)).toNat * 2)).off + 1, none⟩ = some (.slice A127_1 ((rd_T26 l0_1 (rd t104 x11_3)).f1).length c127_1) := hS_
                                            obtain ⟨Ao119, co119, eo119⟩ := Kd.R_slice HO131.out
                                            (first | subst eo119 | (injection eo119 with f1_ f2_ f3_; have f4_ := f1_.symm; have f5_ := f3_.symm; clear f1_ f2_ f3_; subst f4_; subst f5_))
                                            refine norm_ (a' := ?_) ?_ ?_
                                            rotate_left
                                            · simp only [putAll, Act.put, List.setIfInBounds_toArray, List.set_cons_zero, List.set_cons_succ]
                                              rfl
                                            refine one_ (i := 14) (N := none) #[true, true, true, true, true, true, true, true, true, true, true, true, true, true, true, false] rfl rfl (one_of HT_.out (by kernel_rfl)) (by decide) (fun K hK => ?_)
                                            have hs118 : w117.cell? ⟨gb133, 0, none⟩ = some (.int .i64 0) := (blk_cell BK133.out 0).trans rfl
                                            have hfs118 := blk_frozen BK133.out 0
                                            have hns118_0 := NB101_133.out
                                            have hns118_1 := NB102_133.out
                                            have hns118_2 := NB116_133.out
                                            have hns118_3 := NB122_133.out
                                            have hms118_0 := NB133_101.out
                                            have hms118_1 := NB133_102.out
                                            have hms118_2 := NB133_116.out
                                            have hms118_3 := NB133_122.out
                                            have hs120 : w117.cell? ⟨gb133, 1, none⟩ = some (.slice none 0 0) := (blk_cell BK133.out 1).trans rfl
                                            have hfs120 := blk_frozen BK133.out 1
                                            have hns120_0 := NB101_133.out
                                            have hns120_1 := NB102_133.out
                                            have hns120_2 := NB116_133.out
                                            have hns120_3 := NB122_133.out
                                            have hms120_0 := NB133_101.out
                                            have hms120_1 := NB133_102.out
                                            have hms120_2 := NB133_116.out
                                            have hms120_3 := NB133_122.out
                                            refine skip_ (w1 := ?_) (by rfl) rfl ?_ ?_
                                            rotate_left
                                            · go_simp
                                              rfl
                                            refine hK.out _ _ ⟨((cell_far (p := ⟨gb133, _, none⟩) NB122_133.out _).trans (((cell_far (p := ⟨gb133, _, none⟩) NB122_133.out _).trans (hHeld.1)))), ((cell_far (p := ⟨gb133, _, none⟩) NB122_133.out _).trans (((cell_far (p := ⟨gb133, _, none⟩) NB122_133.out _).trans (hHeld.2.1)))), ((cell_far (p := ⟨gb133, _, none⟩) NB101_133.out _).trans (((cell_far (p := ⟨gb133, _, none⟩) NB101_133.out _).trans (hHeld.2.2.1)))), ((cell_far (p := ⟨gb133, _, none⟩) NB101_133.out _).trans (((cell_far (p := ⟨gb133, _, none⟩) NB101_133.out _).trans (hHeld.2.2.2.1)))), ((cell_far (p := ⟨gb133, _, none⟩) (by first | exact Kd.own_blk (Kd.R_ne HO_5.out BK133.out (by decide)) | (rw [add_block]; exact Kd.own_blk (Kd.R_ne HO_5.out BK133.out (by decide))) | (show (Addr.add _ _).block ≠ _; rw [add_block]; exact Kd.own_blk (Kd.R_ne HO_5.out BK133.out (by decide))) | (dsimp only; exact Kd.own_blk (Kd.R_ne HO_5.out BK133.out (by decide)))) _).trans (((cell_far (p := ⟨gb133, _, none⟩) (by first | exact Kd.own_blk (Kd.R_ne HO_5.out BK133.out (by decide)) | (rw [add_block]; exact Kd.own_blk (Kd.R_ne HO_5.out BK133.out (by decide))) | (show (Addr.add _ _).block ≠ _; rw [add_block]; exact Kd.own_blk (Kd.R_ne HO_5.out BK133.out (by decide))) | (dsimp only; exact Kd.own_blk (Kd.R_ne HO_5.out BK133.out (by decide)))) _).trans (hHeld.2.2.2.2.1)))), ((cell_far (p := ⟨gb133, _, none⟩) (by first | exact Nat.ne_of_lt (Nat.lt_of_lt_of_le (by have := World.block_lt_of_cell? _ _ hw127_0; first | rwa [add_block] at this | exact this) GW133.out) | (rw [add_block]; exact Nat.ne_of_lt (Nat.lt_of_lt_of_le (by have := World.block_lt_of_cell? _ _ hw127_0; first | rwa [add_block] at this | exact this) GW133.out)) | (show (Addr.add _ _).block ≠ _; rw [add_block]; exact Nat.ne_of_lt (Nat.lt_of_lt_of_le (by have := World.block_lt_of_cell? _ _ hw127_0; first | rwa [add_block] at this | exact this) GW133.out)) | (dsimp only; exact Nat.ne_of_lt (Nat.lt_of_lt_of_le (by have := World.block_lt_of_cell? _ _ hw127_0; first | rwa [add_block] at this | exact this) GW133.out))) _).trans (((cell_far (p := ⟨gb133, _, none⟩) (by first | exact Nat.ne_of_lt (Nat.lt_of_lt_of_le (by have := World.block_lt_of_cell? _ _ hw127_0; first | rwa [add_block] at this | exact this) GW133.out) | (rw [add_block]; exact Nat.ne_of_lt (Nat.lt_of_lt_of_le (by have := World.block_lt_of_cell? _ _ hw127_0; first | rwa [add_block] at this | exact this) GW133.out)) | (show (Addr.add _ _).block ≠ _; rw [add_block]; exact Nat.ne_of_lt (Nat.lt_of_lt_of_le (by have := World.block_lt_of_cell? _ _ hw127_0; first | rwa [add_block] at this | exact this) GW133.out)) | (dsimp only; exact Nat.ne_of_lt (Nat.lt_of_lt_of_le (by have := World.block_lt_of_cell? _ _ hw127_0; first | rwa [add_block] at this | exact this) GW133.out))) _).trans (hHeld.2.2.2.2.2.1)))), ((cell_far (p := ⟨gb133, _, none⟩) (by first | exact Nat.ne_of_lt (Nat.lt_of_lt_of_le (by have := World.block_lt_of_cell? _ _ hw127_1; first | rwa [add_block] at this | exact this) GW133.out) | (rw [add_block]; exact Nat.ne_of_lt (Nat.lt_of_lt_of_le (by have := World.block_lt_of_cell? _ _ hw127_1; first | rwa [add_block] at this | exact this) GW133.out)) | (show (Addr.add _ _).block ≠ _; rw [add_block]; exact Nat.ne_of_lt (Nat.lt_of_lt_of_le (by have := World.block_lt_of_cell? _ _ hw127_1; first | rwa [add_block] at this | exact this) GW133.out)) | (dsimp only; exact Nat.ne_of_lt (Nat.lt_of_lt_of_le (by have := World.block_lt_of_cell? _ _ hw127_1; first | rwa [add_block] at this | exact this) GW133.out))) _).trans (((cell_far (p := ⟨gb133, _, none⟩) (by first | exact Nat.ne_of_lt (Nat.lt_of_lt_of_le (by have := World.block_lt_of_cell? _ _ hw127_1; first | rwa [add_block] at this | exact this) GW133.out) | (rw [add_block]; exact Nat.ne_of_lt (Nat.lt_of_lt_of_le (by have := World.block_lt_of_cell? _ _ hw127_1; first | rwa [add_block] at this | exact this) GW133.out)) | (show (Addr.add _ _).block ≠ _; rw [add_block]; exact Nat.ne_of_lt (Nat.lt_of_lt_of_le (by have := World.block_lt_of_cell? _ _ hw127_1; first | rwa [add_block] at this | exact this) GW133.out)) | (dsimp only; exact Nat.ne_of_lt (Nat.lt_of_lt_of_le (by have := World.block_lt_of_cell? _ _ hw127_1; first | rwa [add_block] at this | exact this) GW133.out))) _).trans (hHeld.2.2.2.2.2.2))))⟩ (fun hHeld => ?_)
                                            clear hK K
                                            refine pure_ (i := 15) (N := some 13) (v := ?_) (a' := ?_) #[true, true, true, true, true, true, true, true, true, true, true, true, true, true, true, true] rfl rfl (any_of HT_.out (by kernel_rfl)) (fun _ _ _ h => h) (Or.inl ⟨by rfl, ?_⟩) ?_ ?_
                                            rotate_left
                                            · intro w'
                                              go_simp
                                              with_reducible rfl
                                            rotate_left
                                            · simp only [Act.put, List.setIfInBounds_toArray, List.set_cons_zero, List.set_cons_succ, i64_w, i32_w]
                                              rfl
                                            refine done_ (done_of HT_.out (by kernel_rfl)) ?_
                                            try go_wp2
                                            have n0_ : Aside0 (Kd.R (Kd.int .i64) 3 ((w117.setCell ⟨gb133, 0, none⟩ (.int .i64 t128)).setCell ⟨gb133, 1, none⟩ (.slice Ao119 t129.length co119)) w.heap.size (fun k_ => (w.heap.size ≤ k_)) (.slice (some ad126) t104.length co72) t104) := ⟨by (with_reducible repeat (first | apply Kd.R_alloc | apply Kd.R_drewN | apply Kd.R_drew)); exact Kd.R_mono (Kd.R_far (p := ⟨gb133, 1, none⟩) (Kd.R_far (p := ⟨gb133, 0, none⟩) (Kd.R_types HO_5.out BK133.out (by decide)) (fun _ hk => hk.2) (.int .i64 t128)) (fun _ hk => hk.2) (.slice Ao119 t129.length co119)) (fun _ hk => hk.1)⟩
                                            have n1_ : Aside0 (Kd.V (Kd.int .u64) 82 ((w117.setCell ⟨gb133, 0, none⟩ (.int .i64 t128)).setCell ⟨gb133, 1, none⟩ (.slice Ao119 t129.length co119)) w.heap.size (fun k_ => (P1_1_ k_ ∨ w.heap.size ≤ k_) ∧ some k_ ≠ (.slice (some ad126) t104.length co72 : Value).ownBlock ∧ some k_ ≠ (.slice Ao46 t112.length co46 : Value).ownBlock ∧ some k_ ≠ (.slice Ao119 t129.length co119 : Value).ownBlock ∧ k_ ≠ gb101 ∧ k_ ≠ gb102 ∧ k_ ≠ gb116 ∧ k_ ≠ gb122 ∧ k_ ≠ gb133) (.slice A1_1 l1_1.length c1_1) l1_1) := ⟨by (with_reducible repeat (first | apply Kd.V_alloc | apply Kd.V_drewN | apply Kd.V_drew)); exact Kd.V_mono (Kd.V_far (p := ⟨gb133, 1, none⟩) (Kd.V_far (p := ⟨gb133, 0, none⟩) (Kd.V_mono HO_103001.out (fun k_ hk => (⟨hk, hk.2.2.2.2.2.2.2.2⟩ : _ ∧ k_ ≠ gb133))) (fun _ hk => hk.2) (.int .i64 t128)) (fun _ hk => hk.2) (.slice Ao119 t129.length co119)) (fun _ hk => ⟨hk.1.1, ⟨hk.1.2.2.2.1, ⟨hk.1.2.2.1, ⟨hk.1.2.1, ⟨hk.1.2.2.2.2.1, ⟨hk.1.2.2.2.2.2.1, ⟨hk.1.2.2.2.2.2.2.1, ⟨hk.1.2.2.2.2.2.2.2.1, hk.1.2.2.2.2.2.2.2.2⟩⟩⟩⟩⟩⟩⟩⟩)⟩
                                            have n2_ : Aside0 (Kd.R (Kd.int .u64) 82 ((w117.setCell ⟨gb133, 0, none⟩ (.int .i64 t128)).setCell ⟨gb133, 1, none⟩ (.slice Ao119 t129.length co119)) w.heap.size (fun k_ => (w.heap.size ≤ k_) ∧ some k_ ≠ (.slice Ao119 t129.length co119 : Value).ownBlock) (.slice Ao46 t112.length co46) t112) := ⟨by (with_reducible repeat (first | apply Kd.R_alloc | apply Kd.R_drewN | apply Kd.R_drew)); exact Kd.R_mono (Kd.R_far (p := ⟨gb133, 1, none⟩) (Kd.R_far (p := ⟨gb133, 0, none⟩) (Kd.R_types HO_117001.out BK133.out (by decide)) (fun _ hk => hk.2) (.int .i64 t128)) (fun _ hk => hk.2) (.slice Ao119 t129.length co119)) (fun _ hk => ⟨hk.1.1, hk.1.2⟩)⟩
                                            have n3_ : Aside0 (Kd.V (Kd.int .u64) 82 ((w117.setCell ⟨gb133, 0, none⟩ (.int .i64 t128)).setCell ⟨gb133, 1, none⟩ (.slice Ao119 t129.length co119)) w.heap.size (fun k_ => (P1_1_ k_ ∨ w.heap.size ≤ k_) ∧ some k_ ≠ (.slice (some ad126) t104.length co72 : Value).ownBlock ∧ some k_ ≠ (.slice Ao46 t112.length co46 : Value).ownBlock ∧ some k_ ≠ (.slice Ao119 t129.length co119 : Value).ownBlock ∧ k_ ≠ gb101 ∧ k_ ≠ gb102 ∧ k_ ≠ gb116 ∧ k_ ≠ gb122 ∧ k_ ≠ gb133) (.slice Ao113 x123001_3.length co113) x123001_3) := ⟨by (with_reducible repeat (first | apply Kd.V_alloc | apply Kd.V_drewN | apply Kd.V_drew)); exact Kd.V_mono (Kd.V_far (p := ⟨gb133, 1, none⟩) (Kd.V_far (p := ⟨gb133, 0, none⟩) (Kd.V_mono HO_123001.out (fun k_ hk => (⟨hk, hk.2.2.2.2.2.2.2.2⟩ : _ ∧ k_ ≠ gb133))) (fun _ hk => hk.2) (.int .i64 t128)) (fun _ hk => hk.2) (.slice Ao119 t129.length co119)) (fun _ hk => ⟨hk.1.1, ⟨hk.1.2.2.2.1, ⟨hk.1.2.2.1, ⟨hk.1.2.1, ⟨hk.1.2.2.2.2.1, ⟨hk.1.2.2.2.2.2.1, ⟨hk.1.2.2.2.2.2.2.1, ⟨hk.1.2.2.2.2.2.2.2.1, hk.1.2.2.2.2.2.2.2.2⟩⟩⟩⟩⟩⟩⟩⟩)⟩
                                            have n4_ : Aside0 (Kd.R (Kd.int .u64) 82 ((w117.setCell ⟨gb133, 0, none⟩ (.int .i64 t128)).setCell ⟨gb133, 1, none⟩ (.slice Ao119 t129.length co119)) w.heap.size (fun k_ => (w.heap.size ≤ k_) ∧ some k_ ≠ (.slice Ao46 t112.length co46 : Value).ownBlock) (.slice Ao119 t129.length co119) t129) := ⟨by (with_reducible repeat (first | apply Kd.R_alloc | apply Kd.R_drewN | apply Kd.R_drew)); exact Kd.R_mono (Kd.R_far (p := ⟨gb133, 1, none⟩) (Kd.R_far (p := ⟨gb133, 0, none⟩) (Kd.R_types HO131.out BK133.out (by decide)) (fun _ hk => hk.2) (.int .i64 t128)) (fun _ hk => hk.2) (.slice Ao119 t129.length co119)) (fun _ hk => ⟨hk.1.1, hk.1.2⟩)⟩
                                            have n5_ : Aside0 (((w117.setCell ⟨gb133, 0, none⟩ (.int .i64 t128)).setCell ⟨gb133, 1, none⟩ (.slice Ao119 t129.length co119)).heap[gb101]? = some (.cells #[.int .i64 a0_0, .slice (some ad127) l0_1.length c0_1] 40 (0, 0))) := ⟨by (with_reducible repeat (first | refine blk_drewN ?_ _ | refine blk_drew ?_ | refine blk_alloc ?_ _)); refine blk_far ?_ NB101_133.out _; (with_reducible repeat (first | refine blk_drewN ?_ _ | refine blk_drew ?_ | refine blk_alloc ?_ _)); refine blk_far ?_ NB101_133.out _; (with_reducible repeat (first | refine blk_drewN ?_ _ | refine blk_drew ?_ | refine blk_alloc ?_ _)); exact BK101.out⟩
                                            have n6_ : Aside0 (((w117.setCell ⟨gb133, 0, none⟩ (.int .i64 t128)).setCell ⟨gb133, 1, none⟩ (.slice Ao119 t129.length co119)).heap[gb102]? = some (.cells #[.int .i64 a1_0, .slice A1_1 l1_1.length c1_1] 26 (0, 0))) := ⟨by (with_reducible repeat (first | refine blk_drewN ?_ _ | refine blk_drew ?_ | refine blk_alloc ?_ _)); refine blk_far ?_ NB102_133.out _; (with_reducible repeat (first | refine blk_drewN ?_ _ | refine blk_drew ?_ | refine blk_alloc ?_ _)); refine blk_far ?_ NB102_133.out _; (with_reducible repeat (first | refine blk_drewN ?_ _ | refine blk_drew ?_ | refine blk_alloc ?_ _)); exact BK102.out⟩
                                            have n7_ : Aside0 (((w117.setCell ⟨gb133, 0, none⟩ (.int .i64 t128)).setCell ⟨gb133, 1, none⟩ (.slice Ao119 t129.length co119)).heap[gb116]? = some (.cells #[.int .i64 t111, .slice Ao46 t112.length co46] 26 (0, 0))) := ⟨by (with_reducible repeat (first | refine blk_drewN ?_ _ | refine blk_drew ?_ | refine blk_alloc ?_ _)); refine blk_far ?_ NB116_133.out _; (with_reducible repeat (first | refine blk_drewN ?_ _ | refine blk_drew ?_ | refine blk_alloc ?_ _)); refine blk_far ?_ NB116_133.out _; (with_reducible repeat (first | refine blk_drewN ?_ _ | refine blk_drew ?_ | refine blk_alloc ?_ _)); exact BK116.out⟩
                                            have n8_ : Aside0 (((w117.setCell ⟨gb133, 0, none⟩ (.int .i64 t128)).setCell ⟨gb133, 1, none⟩ (.slice Ao119 t129.length co119)).heap[gb122]? = some (.cells #[.int .i64 x123000_3, .slice Ao113 x123001_3.length co113] 26 (0, 0))) := ⟨by (with_reducible repeat (first | refine blk_drewN ?_ _ | refine blk_drew ?_ | refine blk_alloc ?_ _)); refine blk_far ?_ NB122_133.out _; (with_reducible repeat (first | refine blk_drewN ?_ _ | refine blk_drew ?_ | refine blk_alloc ?_ _)); refine blk_far ?_ NB122_133.out _; (with_reducible repeat (first | refine blk_drewN ?_ _ | refine blk_drew ?_ | refine blk_alloc ?_ _)); exact BK122.out⟩
                                            have n9_ : Aside0 (((w117.setCell ⟨gb133, 0, none⟩ (.int .i64 t128)).setCell ⟨gb133, 1, none⟩ (.slice Ao119 t129.length co119)).heap[gb133]? = some (.cells #[.int .i64 t128, .slice Ao119 t129.length co119] 26 (0, 0))) := ⟨by (with_reducible repeat (first | refine blk_drewN ?_ _ | refine blk_drew ?_ | refine blk_alloc ?_ _)); refine blk_put (cs := #[.int .i64 t128, .slice none 0 0]) ?_ 1 _ rfl; (with_reducible repeat (first | refine blk_drewN ?_ _ | refine blk_drew ?_ | refine blk_alloc ?_ _)); refine blk_put (cs := #[.int .i64 0, .slice none 0 0]) ?_ 0 _ rfl; (with_reducible repeat (first | refine blk_drewN ?_ _ | refine blk_drew ?_ | refine blk_alloc ?_ _)); exact BK133.out⟩
                                            have n10_ : Aside0 (Below w.heap.size w ((w117.setCell ⟨gb133, 0, none⟩ (.int .i64 t128)).setCell ⟨gb133, 1, none⟩ (.slice Ao119 t129.length co119))) := ⟨by repeat (first | (with_reducible first | exact HB.out | apply below_alloc | apply pw_below_drewN | apply below_drew1 | refine below_set ?_ GE101.out | refine below_set ?_ GE102.out | refine below_set ?_ GE116.out | refine below_set ?_ GE122.out | refine below_set ?_ GE133.out) | exact HB.out)⟩
                                            (try clear HO_5)
                                            (try clear HO_103001)
                                            (try clear HO_117001)
                                            (try clear HO_123001)
                                            (try clear HO131)
                                            (try clear BK101)
                                            (try clear BK102)
                                            (try clear BK116)
                                            (try clear BK122)
                                            (try clear BK133)
                                            (try clear HB)
                                            generalize ((w117.setCell ⟨gb133, 0, none⟩ (.int .i64 t128)).setCell ⟨gb133, 1, none⟩ (.slice Ao119 t129.length co119)) = w121 at n0_ n1_ n2_ n3_ n4_ n5_ n6_ n7_ n8_ n9_ n10_ ⊢
                                            have HO_5 := n0_
                                            have HO_103001 := n1_
                                            have HO_117001 := n2_
                                            have HO_123001 := n3_
                                            have HO131 := n4_
                                            have BK101 := n5_
                                            have BK102 := n6_
                                            have BK116 := n7_
                                            have BK122 := n8_
                                            have BK133 := n9_
                                            have HB := n10_
                                            clear n0_ n1_ n2_ n3_ n4_ n5_ n6_ n7_ n8_ n9_ n10_
                                            have n0_ := Aside0.mk (Kd.R_drew HO_5.out)
                                            have n1_ := Aside0.mk (Kd.V_drew HO_103001.out)
                                            have n2_ := Aside0.mk (Kd.R_drew HO_117001.out)
                                            have n3_ := Aside0.mk (Kd.V_drew HO_123001.out)
                                            have n4_ := Aside0.mk (Kd.R_drew HO131.out)
                                            have n5_ := Aside0.mk (blk_drew BK101.out)
                                            have n6_ := Aside0.mk (blk_drew BK102.out)
                                            have n7_ := Aside0.mk (blk_drew BK116.out)
                                            have n8_ := Aside0.mk (blk_drew BK122.out)
                                            have n9_ := Aside0.mk (blk_drew BK133.out)
                                            have n10_ := Aside0.mk (below_drew1 HB.out)
                                            clear HO_5
                                            clear HO_103001
                                            clear HO_117001
                                            clear HO_123001
                                            clear HO131
                                            clear BK101
                                            clear BK102
                                            clear BK116
                                            clear BK122
                                            clear BK133
                                            clear HB
                                            have HO_5 := n0_
                                            have HO_103001 := n1_
                                            have HO_117001 := n2_
                                            have HO_123001 := n3_
                                            have HO131 := n4_
                                            have BK101 := n5_
                                            have BK102 := n6_
                                            have BK116 := n7_
                                            have BK122 := n8_
                                            have BK133 := n9_
                                            have HB := n10_
                                            clear n0_ n1_ n2_ n3_ n4_ n5_ n6_ n7_ n8_ n9_ n10_
                                            refine start_ (n := 6) (S := fun w' => w'.cell? ⟨gb122, 0, none⟩ = some (.int .i64 x123000_3) ∧ w'.cell? ⟨gb122, 1, none⟩ = some (.slice Ao113 x123001_3.length co113) ∧ w'.cell? ⟨gb133, 0, none⟩ = some (.int .i64 t128) ∧ w'.cell? ⟨gb133, 1, none⟩ = some (.slice Ao119 t129.length co119)) (ds := []) #[false, false, false, false, false, false] (by kernel_rfl) rfl rfl ⟨(blk_cell BK122.out 0).trans rfl, (blk_cell BK122.out 1).trans rfl, (blk_cell BK133.out 0).trans rfl, (blk_cell BK133.out 1).trans rfl⟩ (fun hHeld => ?_)
                                            generalize w121.drew = w122 at HO_5 HO_103001 HO_117001 HO_123001 HO131 BK101 BK102 BK116 BK122 BK133 HB hHeld ⊢
                                            refine take_ (i := 0) (N := some 115) (v := ?_) (a' := ?_) #[true, false, false, false, false, false] rfl rfl (by kernel_rfl) (fun _ _ _ h => h) (Or.inl ⟨by rfl, ?_⟩) hHeld ?_ ?_
                                            rotate_left
                                            · rintro w' ⟨s0, s1, s2, s3⟩
                                              go_simp
                                              with_reducible rfl
                                            rotate_left
                                            · simp only [Act.put, List.setIfInBounds_toArray, List.set_cons_zero, List.set_cons_succ, i64_w, i32_w]
                                              rfl
                                            refine take_ (i := 2) (N := some 117) (v := ?_) (a' := ?_) #[true, false, true, false, false, false] rfl rfl (by kernel_rfl) (fun _ _ _ h => h) (Or.inl ⟨by rfl, ?_⟩) hHeld ?_ ?_
                                            rotate_left
                                            · rintro w' ⟨s0, s1, s2, s3⟩
                                              go_simp
                                              with_reducible rfl
                                            rotate_left
                                            · simp only [Act.put, List.setIfInBounds_toArray, List.set_cons_zero, List.set_cons_succ, i64_w, i32_w]
                                              rfl
                                            refine one_ (i := 1) (N := some 116) #[true, true, true, false, false, false] rfl rfl (by kernel_rfl) (by decide) (fun K hK => ?_)
                                            refine goes_ Try.func52 (by kernel_rfl) rfl #[.agg #[.int .i64 x123000_3, .slice Ao113 x123001_3.length co113]] (by rfl) rfl rfl (by (try simp only [List.map_toArray, List.map_cons, List.map_nil]); first | done | rfl | (simp only [List.length_drop, List.length_take]; rfl)) ?_
                                            with_reducible refine (bitset_Count.calls kj70 x123000_3 _ _ x123001_3 t134 _ ?side1 ?side2 A83.out).mono ?_
                                            (case side1 => repeat (first | exact (Kd.V_reads' HO_123001.out).2.2 | (with_reducible refine Kd.C_alloc ?_ _) | (with_reducible refine Kd.C_drewN ?_ _) | (with_reducible refine Kd.C_drew ?_)))
                                            (case side2 => exact (Kd.V_reads' HO_123001.out).2.1)
                                            rintro e w123 ⟨rfl, hb⟩
                                            refine ⟨_, rfl, ?_⟩
                                            have n0_ := Aside0.mk (Kd.R_below (by (with_reducible repeat (first | apply Kd.R_alloc | apply Kd.R_drewN | apply Kd.R_drew)); exact HO_5.out) hb)
                                            have n1_ := Aside0.mk (Kd.V_below (by (with_reducible repeat (first | apply Kd.V_alloc | apply Kd.V_drewN | apply Kd.V_drew)); exact HO_103001.out) hb)
                                            have n2_ := Aside0.mk (Kd.R_below (by (with_reducible repeat (first | apply Kd.R_alloc | apply Kd.R_drewN | apply Kd.R_drew)); exact HO_117001.out) hb)
                                            have n3_ := Aside0.mk (Kd.V_below (by (with_reducible repeat (first | apply Kd.V_alloc | apply Kd.V_drewN | apply Kd.V_drew)); exact HO_123001.out) hb)
                                            have n4_ := Aside0.mk (Kd.R_below (by (with_reducible repeat (first | apply Kd.R_alloc | apply Kd.R_drewN | apply Kd.R_drew)); exact HO131.out) hb)
                                            have n5_ := Aside0.mk (blk_below (g := gb101) (o := .cells #[.int .i64 a0_0, .slice (some ad127) l0_1.length c0_1] 40 (0, 0)) (by (with_reducible repeat (first | refine blk_drewN ?_ _ | refine blk_drew ?_ | refine blk_alloc ?_ _)); exact BK101.out) hb)
                                            have n6_ := Aside0.mk (blk_below (g := gb102) (o := .cells #[.int .i64 a1_0, .slice A1_1 l1_1.length c1_1] 26 (0, 0)) (by (with_reducible repeat (first | refine blk_drewN ?_ _ | refine blk_drew ?_ | refine blk_alloc ?_ _)); exact BK102.out) hb)
                                            have n7_ := Aside0.mk (blk_below (g := gb116) (o := .cells #[.int .i64 t111, .slice Ao46 t112.length co46] 26 (0, 0)) (by (with_reducible repeat (first | refine blk_drewN ?_ _ | refine blk_drew ?_ | refine blk_alloc ?_ _)); exact BK116.out) hb)
                                            have n8_ := Aside0.mk (blk_below (g := gb122) (o := .cells #[.int .i64 x123000_3, .slice Ao113 x123001_3.length co113] 26 (0, 0)) (by (with_reducible repeat (first | refine blk_drewN ?_ _ | refine blk_drew ?_ | refine blk_alloc ?_ _)); exact BK122.out) hb)
                                            have n9_ := Aside0.mk (blk_below (g := gb133) (o := .cells #[.int .i64 t128, .slice Ao119 t129.length co119] 26 (0, 0)) (by (with_reducible repeat (first | refine blk_drewN ?_ _ | refine blk_drew ?_ | refine blk_alloc ?_ _)); exact BK133.out) hb)
                                            have n10_ := Aside0.mk (below_step (by repeat (first | (with_reducible first | exact HB.out | apply below_alloc | apply pw_below_drewN | apply below_drew1 | refine below_set ?_ GE101.out | refine below_set ?_ GE102.out | refine below_set ?_ GE116.out | refine below_set ?_ GE122.out | refine below_set ?_ GE133.out) | exact HB.out)) hb)
                                            clear HO_5
                                            clear HO_103001
                                            clear HO_117001
                                            clear HO_123001
                                            clear HO131
                                            clear BK101
                                            clear BK102
                                            clear BK116
                                            clear BK122
                                            clear BK133
                                            clear HB
                                            have HO_5 := n0_
                                            have HO_103001 := n1_
                                            have HO_117001 := n2_
                                            have HO_123001 := n3_
                                            have HO131 := n4_
                                            have BK101 := n5_
                                            have BK102 := n6_
                                            have BK116 := n7_
                                            have BK122 := n8_
                                            have BK133 := n9_
                                            have HB := n10_
                                            clear n0_ n1_ n2_ n3_ n4_ n5_ n6_ n7_ n8_ n9_ n10_
                                            (try clear hb)
                                            (try clear hb2)
                                            (try clear hk)
                                            (try clear hi)
                                            refine hK.out _ _ ⟨(blk_cell BK122.out 0).trans rfl, (blk_cell BK122.out 1).trans rfl, (blk_cell BK133.out 0).trans rfl, (blk_cell BK133.out 1).trans rfl⟩ (fun hHeld => ?_)
                                            clear hK K
                                            refine norm_ (a' := ?_) ?_ ?_
                                            rotate_left
                                            · show Act.put _ (some 116) _ = _
                                              simp only [Act.put, List.setIfInBounds_toArray, List.set_cons_zero, List.set_cons_succ, i64_w, i32_w]
                                              rfl
                                            refine one_ (i := 3) (N := some 118) #[true, true, true, true, false, false] rfl rfl (by kernel_rfl) (by decide) (fun K hK => ?_)
                                            refine goes_ Try.func52 (by kernel_rfl) rfl #[.agg #[.int .i64 t128, .slice Ao119 t129.length co119]] (by rfl) rfl rfl (by (try simp only [List.map_toArray, List.map_cons, List.map_nil]); first | done | rfl | (simp only [List.length_drop, List.length_take]; rfl)) ?_
                                            with_reducible refine (bitset_Count.calls kj70 t128 _ _ t129 t135 _ ?side1 ?side2 A84.out).mono ?_
                                            (case side1 => repeat (first | exact (Kd.R_reads' HO131.out).2.2 | (with_reducible refine Kd.C_alloc ?_ _) | (with_reducible refine Kd.C_drewN ?_ _) | (with_reducible refine Kd.C_drew ?_)))
                                            (case side2 => exact (Kd.R_reads' HO131.out).2.1)
                                            rintro e w124 ⟨rfl, hb⟩
                                            refine ⟨_, rfl, ?_⟩
                                            have n0_ := Aside0.mk (Kd.R_below (by (with_reducible repeat (first | apply Kd.R_alloc | apply Kd.R_drewN | apply Kd.R_drew)); exact HO_5.out) hb)
                                            have n1_ := Aside0.mk (Kd.V_below (by (with_reducible repeat (first | apply Kd.V_alloc | apply Kd.V_drewN | apply Kd.V_drew)); exact HO_103001.out) hb)
                                            have n2_ := Aside0.mk (Kd.R_below (by (with_reducible repeat (first | apply Kd.R_alloc | apply Kd.R_drewN | apply Kd.R_drew)); exact HO_117001.out) hb)
                                            have n3_ := Aside0.mk (Kd.V_below (by (with_reducible repeat (first | apply Kd.V_alloc | apply Kd.V_drewN | apply Kd.V_drew)); exact HO_123001.out) hb)
                                            have n4_ := Aside0.mk (Kd.R_below (by (with_reducible repeat (first | apply Kd.R_alloc | apply Kd.R_drewN | apply Kd.R_drew)); exact HO131.out) hb)
                                            have n5_ := Aside0.mk (blk_below (g := gb101) (o := .cells #[.int .i64 a0_0, .slice (some ad127) l0_1.length c0_1] 40 (0, 0)) (by (with_reducible repeat (first | refine blk_drewN ?_ _ | refine blk_drew ?_ | refine blk_alloc ?_ _)); exact BK101.out) hb)
                                            have n6_ := Aside0.mk (blk_below (g := gb102) (o := .cells #[.int .i64 a1_0, .slice A1_1 l1_1.length c1_1] 26 (0, 0)) (by (with_reducible repeat (first | refine blk_drewN ?_ _ | refine blk_drew ?_ | refine blk_alloc ?_ _)); exact BK102.out) hb)
                                            have n7_ := Aside0.mk (blk_below (g := gb116) (o := .cells #[.int .i64 t111, .slice Ao46 t112.length co46] 26 (0, 0)) (by (with_reducible repeat (first | refine blk_drewN ?_ _ | refine blk_drew ?_ | refine blk_alloc ?_ _)); exact BK116.out) hb)
                                            have n8_ := Aside0.mk (blk_below (g := gb122) (o := .cells #[.int .i64 x123000_3, .slice Ao113 x123001_3.length co113] 26 (0, 0)) (by (with_reducible repeat (first | refine blk_drewN ?_ _ | refine blk_drew ?_ | refine blk_alloc ?_ _)); exact BK122.out) hb)
                                            have n9_ := Aside0.mk (blk_below (g := gb133) (o := .cells #[.int .i64 t128, .slice Ao119 t129.length co119] 26 (0, 0)) (by (with_reducible repeat (first | refine blk_drewN ?_ _ | refine blk_drew ?_ | refine blk_alloc ?_ _)); exact BK133.out) hb)
                                            have n10_ := Aside0.mk (below_step (by repeat (first | (with_reducible first | exact HB.out | apply below_alloc | apply pw_below_drewN | apply below_drew1 | refine below_set ?_ GE101.out | refine below_set ?_ GE102.out | refine below_set ?_ GE116.out | refine below_set ?_ GE122.out | refine below_set ?_ GE133.out) | exact HB.out)) hb)
                                            clear HO_5
                                            clear HO_103001
                                            clear HO_117001
                                            clear HO_123001
                                            clear HO131
                                            clear BK101
                                            clear BK102
                                            clear BK116
                                            clear BK122
                                            clear BK133
                                            clear HB
                                            have HO_5 := n0_
                                            have HO_103001 := n1_
                                            have HO_117001 := n2_
                                            have HO_123001 := n3_
                                            have HO131 := n4_
                                            have BK101 := n5_
                                            have BK102 := n6_
                                            have BK116 := n7_
                                            have BK122 := n8_
                                            have BK133 := n9_
                                            have HB := n10_
                                            clear n0_ n1_ n2_ n3_ n4_ n5_ n6_ n7_ n8_ n9_ n10_
                                            (try clear hb)
                                            (try clear hb2)
                                            (try clear hk)
                                            (try clear hi)
                                            refine hK.out _ _ ⟨(blk_cell BK122.out 0).trans rfl, (blk_cell BK122.out 1).trans rfl, (blk_cell BK133.out 0).trans rfl, (blk_cell BK133.out 1).trans rfl⟩ (fun hHeld => ?_)
                                            clear hK K
                                            refine norm_ (a' := ?_) ?_ ?_
                                            rotate_left
                                            · show Act.put _ (some 118) _ = _
                                              simp only [Act.put, List.setIfInBounds_toArray, List.set_cons_zero, List.set_cons_succ, i64_w, i32_w]
                                              rfl
                                            refine pure_ (i := 4) (N := some 119) (v := ?_) (a' := ?_) #[true, true, true, true, true, false] rfl rfl (by kernel_rfl) (fun _ _ _ h => h) (Or.inl ⟨by rfl, ?_⟩) ?_ ?_
                                            rotate_left
                                            · intro w'
                                              go_simp
                                              with_reducible rfl
                                            rotate_left
                                            · simp only [Act.put, List.setIfInBounds_toArray, List.set_cons_zero, List.set_cons_succ, i64_w, i32_w]
                                              rfl
                                            refine pure_ (i := 5) (N := some 14) (v := ?_) (a' := ?_) #[true, true, true, true, true, true] rfl rfl (by kernel_rfl) (fun _ _ _ h => h) (Or.inl ⟨by rfl, ?_⟩) ?_ ?_
                                            rotate_left
                                            · intro w'
                                              go_simp
                                              with_reducible rfl
                                            rotate_left
                                            · simp only [Act.put, List.setIfInBounds_toArray, List.set_cons_zero, List.set_cons_succ, i64_w, i32_w]
                                              rfl
                                            refine done_ (by kernel_rfl) ?_
                                            try go_wp2_with (first | ((with_reducible refine gate_callee (f := 19) rfl ?_); refine goesL_ (some 121) rfl rfl Try.func19 (by kernel_rfl) rfl #[.int .i64 t132] rfl (by (try simp only [List.map_toArray, List.map_cons, List.map_nil]); first | done | rfl | (simp only [List.length_drop, List.length_take]; rfl)) ?_; (with_reducible refine (slopelaw3_num.calls t132 t136 _ A85.out).mono ?_); rintro e w' ⟨rfl, ⟨nd, rfl⟩⟩; refine ⟨_, rfl, ?_⟩; (try (rw [drewN_self w124]; generalize hq_ : World.drewN w124 _ = w124; have n0_ : Aside0 (Kd.R (Kd.int .u64) 82 w124 w.heap.size (fun k_ => (w.heap.size ≤ k_) ∧ some k_ ≠ (.slice Ao46 t112.length co46 : Value).ownBlock) (.slice Ao119 t129.length co119) t129) := ⟨by rw [← hq_]; exact (by (with_reducible repeat (first | apply Kd.R_alloc | apply Kd.R_drewN | apply Kd.R_drew)); exact HO131.out)⟩; have n1_ : Aside0 (Kd.V (Kd.int .u64) 82 w124 w.heap.size (fun k_ => (P1_1_ k_ ∨ w.heap.size ≤ k_) ∧ some k_ ≠ (.slice Ao119 t129.length co119 : Value).ownBlock ∧ some k_ ≠ (.slice Ao46 t112.length co46 : Value).ownBlock ∧ some k_ ≠ (.slice (some ad126) t104.length co72 : Value).ownBlock ∧ k_ ≠ gb101 ∧ k_ ≠ gb102 ∧ k_ ≠ gb116 ∧ k_ ≠ gb122 ∧ k_ ≠ gb133) (.slice A1_1 l1_1.length c1_1) l1_1) := ⟨by rw [← hq_]; exact (by (with_reducible repeat (first | apply Kd.V_alloc | apply Kd.V_drewN | apply Kd.V_drew)); exact Kd.V_mono HO_103001.out (fun _ hk => ⟨hk.1, ⟨hk.2.2.2.1, ⟨hk.2.2.1, ⟨hk.2.1, ⟨hk.2.2.2.2.1, ⟨hk.2.2.2.2.2.1, ⟨hk.2.2.2.2.2.2.1, ⟨hk.2.2.2.2.2.2.2.1, hk.2.2.2.2.2.2.2.2⟩⟩⟩⟩⟩⟩⟩⟩))⟩; have n2_ : Aside0 (Kd.R (Kd.int .u64) 82 w124 w.heap.size (fun k_ => (w.heap.size ≤ k_) ∧ some k_ ≠ (.slice Ao119 t129.length co119 : Value).ownBlock) (.slice Ao46 t112.length co46) t112) := ⟨by rw [← hq_]; exact (by (with_reducible repeat (first | apply Kd.R_alloc | apply Kd.R_drewN | apply Kd.R_drew)); exact HO_117001.out)⟩; have n3_ : Aside0 (Kd.V (Kd.int .u64) 82 w124 w.heap.size (fun k_ => (P1_1_ k_ ∨ w.heap.size ≤ k_) ∧ some k_ ≠ (.slice Ao119 t129.length co119 : Value).ownBlock ∧ some k_ ≠ (.slice Ao46 t112.length co46 : Value).ownBlock ∧ some k_ ≠ (.slice (some ad126) t104.length co72 : Value).ownBlock ∧ k_ ≠ gb101 ∧ k_ ≠ gb102 ∧ k_ ≠ gb116 ∧ k_ ≠ gb122 ∧ k_ ≠ gb133) (.slice Ao113 x123001_3.length co113) x123001_3) := ⟨by rw [← hq_]; exact (by (with_reducible repeat (first | apply Kd.V_alloc | apply Kd.V_drewN | apply Kd.V_drew)); exact Kd.V_mono HO_123001.out (fun _ hk => ⟨hk.1, ⟨hk.2.2.2.1, ⟨hk.2.2.1, ⟨hk.2.1, ⟨hk.2.2.2.2.1, ⟨hk.2.2.2.2.2.1, ⟨hk.2.2.2.2.2.2.1, ⟨hk.2.2.2.2.2.2.2.1, hk.2.2.2.2.2.2.2.2⟩⟩⟩⟩⟩⟩⟩⟩))⟩; have n4_ : Aside0 (Kd.R (Kd.int .i64) 3 w124 w.heap.size (fun k_ => (w.heap.size ≤ k_)) (.slice (some ad126) t104.length co72) t104) := ⟨by rw [← hq_]; exact (by (with_reducible repeat (first | apply Kd.R_alloc | apply Kd.R_drewN | apply Kd.R_drew)); exact HO_5.out)⟩; have n5_ : Aside0 (w124.heap[gb101]? = some (.cells #[.int .i64 a0_0, .slice (some ad127) l0_1.length c0_1] 40 (0, 0))) := ⟨by rw [← hq_]; exact (by (with_reducible repeat (first | refine blk_drewN ?_ _ | refine blk_drew ?_ | refine blk_alloc ?_ _)); exact BK101.out)⟩; have n6_ : Aside0 (w124.heap[gb102]? = some (.cells #[.int .i64 a1_0, .slice A1_1 l1_1.length c1_1] 26 (0, 0))) := ⟨by rw [← hq_]; exact (by (with_reducible repeat (first | refine blk_drewN ?_ _ | refine blk_drew ?_ | refine blk_alloc ?_ _)); exact BK102.out)⟩; have n7_ : Aside0 (w124.heap[gb116]? = some (.cells #[.int .i64 t111, .slice Ao46 t112.length co46] 26 (0, 0))) := ⟨by rw [← hq_]; exact (by (with_reducible repeat (first | refine blk_drewN ?_ _ | refine blk_drew ?_ | refine blk_alloc ?_ _)); exact BK116.out)⟩; have n8_ : Aside0 (w124.heap[gb122]? = some (.cells #[.int .i64 x123000_3, .slice Ao113 x123001_3.length co113] 26 (0, 0))) := ⟨by rw [← hq_]; exact (by (with_reducible repeat (first | refine blk_drewN ?_ _ | refine blk_drew ?_ | refine blk_alloc ?_ _)); exact BK122.out)⟩; have n9_ : Aside0 (w124.heap[gb133]? = some (.cells #[.int .i64 t128, .slice Ao119 t129.length co119] 26 (0, 0))) := ⟨by rw [← hq_]; exact (by (with_reducible repeat (first | refine blk_drewN ?_ _ | refine blk_drew ?_ | refine blk_alloc ?_ _)); exact BK133.out)⟩; have n10_ : Aside0 (Below w.heap.size w w124) := ⟨by rw [← hq_]; exact (by repeat (first | (with_reducible first | exact HB.out | apply below_alloc | apply pw_below_drewN | apply below_drew1 | refine below_set ?_ GE101.out | refine below_set ?_ GE102.out | refine below_set ?_ GE116.out | refine below_set ?_ GE122.out | refine below_set ?_ GE133.out) | exact HB.out))⟩; clear HO131 HO_103001 HO_117001 HO_123001 HO_5 BK101 BK102 BK116 BK122 BK133 HB hq_; have HO131 := n0_; have HO_103001 := n1_; have HO_117001 := n2_; have HO_123001 := n3_; have HO_5 := n4_; have BK101 := n5_; have BK102 := n6_; have BK116 := n7_; have BK122 := n8_; have BK133 := n9_; have HB := n10_; clear n0_ n1_ n2_ n3_ n4_ n5_ n6_ n7_ n8_ n9_ n10_)); have hnb125 := NB133_101.out; have hnc125 := NB101_133.out; have hnb126 := NB133_102.out; have hnc126 := NB102_133.out; have hnb127 := NB133_116.out; have hnc127 := NB116_133.out; have hnb128 := NB133_122.out; have hnc128 := NB122_133.out; have hcz129_0 : w124.cell? ⟨gb133, 0, none⟩ = some (.int .i64 t128) := (blk_cell BK133.out 0).trans rfl; have hcz129_1 : w124.cell? ⟨gb133, 1, none⟩ = some (.slice Ao119 t129.length co119) := (blk_cell BK133.out 1).trans rfl; have hfz129_0 := blk_frozen BK133.out 0; have hfz129_1 := blk_frozen BK133.out 1; have hnb130 := NB122_101.out; have hnc130 := NB101_122.out; have hnb131 := NB122_102.out; have hnc131 := NB102_122.out; have hnb132 := NB122_116.out; have hnc132 := NB116_122.out; have hcz133_0 : w124.cell? ⟨gb122, 0, none⟩ = some (.int .i64 x123000_3) := (blk_cell BK122.out 0).trans rfl; have hcz133_1 : w124.cell? ⟨gb122, 1, none⟩ = some (.slice Ao113 x123001_3.length co113) := (blk_cell BK122.out 1).trans rfl; have hfz133_0 := blk_frozen BK122.out 0; have hfz133_1 := blk_frozen BK122.out 1))
                                            go_roundg kj70
                                            case measure => have := HJ5.out; have := HJ37.out; have := HK3.out; have := HJ70.out; omega
                                            case rel => exact ⟨(wrap64 (t134 - t135)), (wrap64 (x11_3 + 1)), (t128), (t129), (.slice Ao119 t129.length co119), (by first | rfl | (simp; done) | (simp [*]; done)), (by first | rfl | (simp; done) | (simp [*]; done)), H', ⟨by have := HJ5.out; have := HJ37.out; have := HK3.out; have := HJ70.out; omega⟩, ⟨by (with_reducible repeat (first | apply Kd.R_alloc | apply Kd.R_drewN | apply Kd.R_drew)); exact Kd.R_mono (Kd.R_far (p := ⟨gb122, 1, none⟩) (Kd.R_far (p := ⟨gb122, 0, none⟩) (Kd.R_types HO_5.out BK122.out (by decide)) (fun _ hk => hk.2) (.int .i64 t128)) (fun _ hk => hk.2) (.slice Ao119 t129.length co119)) (fun _ hk => hk.1)⟩, ⟨by (with_reducible repeat (first | apply Kd.V_alloc | apply Kd.V_drewN | apply Kd.V_drew)); exact Kd.V_mono (Kd.V_far (p := ⟨gb122, 1, none⟩) (Kd.V_far (p := ⟨gb122, 0, none⟩) (Kd.V_mono HO_103001.out (fun k_ hk => (⟨hk, hk.2.2.2.2.2.2.2.1⟩ : _ ∧ k_ ≠ gb122))) (fun _ hk => hk.2) (.int .i64 t128)) (fun _ hk => hk.2) (.slice Ao119 t129.length co119)) (fun _ hk => by have h_ := hk.1; simp only [h_, ne_eq, not_false_eq_true, and_self, true_or, or_true])⟩, ⟨by (with_reducible repeat (first | apply Kd.R_alloc | apply Kd.R_drewN | apply Kd.R_drew)); exact Kd.R_mono (Kd.R_far (p := ⟨gb122, 1, none⟩) (Kd.R_far (p := ⟨gb122, 0, none⟩) (Kd.R_types HO_117001.out BK122.out (by decide)) (fun _ hk => hk.2) (.int .i64 t128)) (fun _ hk => hk.2) (.slice Ao119 t129.length co119)) (fun _ hk => hk.1.1)⟩, ⟨Kd.V_mono (ok := fun k_ => (((((((w.heap.size ≤ k_) ∧ some k_ ≠ (.slice Ao46 t112.length co46 : Value).ownBlock) ∧ some k_ ≠ (.slice (some ad126) t104.length co72 : Value).ownBlock) ∧ k_ ≠ gb101) ∧ k_ ≠ gb102) ∧ k_ ≠ gb116) ∧ k_ ≠ gb122)) (Kd.R_V (by (with_reducible repeat (first | apply Kd.R_alloc | apply Kd.R_drewN | apply Kd.R_drew)); exact Kd.R_far (p := ⟨gb122, 1, none⟩) (Kd.R_far (p := ⟨gb122, 0, none⟩) (Kd.R_types (Kd.R_types (Kd.R_types (Kd.R_types (Kd.R_apart' HO131.out (Kd.R_typed HO_5.out) (by decide)) BK101.out (by decide)) BK102.out (by decide)) BK116.out (by decide)) BK122.out (by decide)) (fun _ hk => hk.2) (.int .i64 t128)) (fun _ hk => hk.2) (.slice Ao119 t129.length co119))) (fun k_ hk => ⟨.inr hk.1.1.1.1.1.1, hk.1.1.1.1.2, hk.1.1.1.1.1.2, hk.1.1.1.2, hk.1.1.2, hk.1.2, hk.2⟩)⟩, ⟨by (with_reducible repeat (first | refine blk_drewN ?_ _ | refine blk_drew ?_ | refine blk_alloc ?_ _)); refine blk_far ?_ NB101_122.out _; (with_reducible repeat (first | refine blk_drewN ?_ _ | refine blk_drew ?_ | refine blk_alloc ?_ _)); refine blk_far ?_ NB101_122.out _; (with_reducible repeat (first | refine blk_drewN ?_ _ | refine blk_drew ?_ | refine blk_alloc ?_ _)); exact BK101.out⟩, ⟨by (with_reducible repeat (first | refine blk_drewN ?_ _ | refine blk_drew ?_ | refine blk_alloc ?_ _)); refine blk_far ?_ NB102_122.out _; (with_reducible repeat (first | refine blk_drewN ?_ _ | refine blk_drew ?_ | refine blk_alloc ?_ _)); refine blk_far ?_ NB102_122.out _; (with_reducible repeat (first | refine blk_drewN ?_ _ | refine blk_drew ?_ | refine blk_alloc ?_ _)); exact BK102.out⟩, ⟨by (with_reducible repeat (first | refine blk_drewN ?_ _ | refine blk_drew ?_ | refine blk_alloc ?_ _)); refine blk_far ?_ NB116_122.out _; (with_reducible repeat (first | refine blk_drewN ?_ _ | refine blk_drew ?_ | refine blk_alloc ?_ _)); refine blk_far ?_ NB116_122.out _; (with_reducible repeat (first | refine blk_drewN ?_ _ | refine blk_drew ?_ | refine blk_alloc ?_ _)); exact BK116.out⟩, ⟨by (with_reducible repeat (first | refine blk_drewN ?_ _ | refine blk_drew ?_ | refine blk_alloc ?_ _)); refine blk_put (cs := #[.int .i64 t128, .slice Ao113 x123001_3.length co113]) ?_ 1 _ rfl; (with_reducible repeat (first | refine blk_drewN ?_ _ | refine blk_drew ?_ | refine blk_alloc ?_ _)); refine blk_put (cs := #[.int .i64 x123000_3, .slice Ao113 x123001_3.length co113]) ?_ 0 _ rfl; (with_reducible repeat (first | refine blk_drewN ?_ _ | refine blk_drew ?_ | refine blk_alloc ?_ _)); exact BK122.out⟩, ⟨by repeat (first | (with_reducible first | exact HB.out | apply below_alloc | apply pw_below_drewN | apply below_drew1 | refine below_set ?_ GE101.out | refine below_set ?_ GE102.out | refine below_set ?_ GE116.out | refine below_set ?_ GE122.out | refine below_set ?_ GE133.out) | exact HB.out)⟩⟩
                                      · rw [if_neg c86] at H
                                        have c86b0 : (t136 == 0) = false := beq_eq_false_iff_ne.mpr c86
                                        have c86b1 : (t136 != 0) = true := bne_iff_ne.mpr c86
                                        obtain rfl := Option.some.inj H
                                        exact absurd hr (by decide)
                                    · rw [if_neg c81] at H
                                      exact absurd H (by simp)
                                  · rw [if_neg c80] at H
                                    exact absurd H (by simp)
                                · rw [if_neg c79] at H
                                  exact absurd H (by simp)
                              · rw [if_neg c78] at H
                                exact absurd H (by simp)
                      · rw [if_neg c70] at H
                        have c70b0 : decide (x11_3 < (t104.length : Int)) = false := decide_eq_false c70
                        clear c70
                        replace H := Option.bind_eq_some_iff.mp H
                        obtain ⟨t123, A1460, H⟩ := H
                        replace H : (some (t123 == 0)) = some r := H
                        have A146 := Aside0.mk A1460
                        clear A1460
                        obtain rfl := Option.some.inj H
                        obtain ⟨Ao147, co147, eo147⟩ := Kd.R_slice HO_5.out
                        subst eo147
                        have hnb148 := NB122_101.out
                        have hnc148 := NB101_122.out
                        have hnb149 := NB122_102.out
                        have hnc149 := NB102_122.out
                        have hnb150 := NB122_116.out
                        have hnc150 := NB116_122.out
                        have hcz151_0 : wr.cell? ⟨gb122, 0, none⟩ = some (.int .i64 x123000_3) := (blk_cell BK122.out 0).trans rfl
                        have hcz151_1 : wr.cell? ⟨gb122, 1, none⟩ = some (u123001) := (blk_cell BK122.out 1).trans rfl
                        have hfz151_0 := blk_frozen BK122.out 0
                        have hfz151_1 := blk_frozen BK122.out 1
                        obtain ⟨Ao152, co152, eo152⟩ := Kd.V_slice HO_123001.out
                        subst eo152
                        go_wp2_with (first | ((with_reducible refine gate_callee (f := 52) rfl ?_); refine goesL_ (some 135) rfl rfl Try.func52 (by kernel_rfl) rfl #[.agg #[.int .i64 x123000_3, .slice Ao152 x123001_3.length co152]] rfl (by (try simp only [List.map_toArray, List.map_cons, List.map_nil]); first | done | rfl | (simp only [List.length_drop, List.length_take]; rfl)) ?_; (with_reducible refine (bitset_Count.calls k3 x123000_3 _ _ x123001_3 t123 _ ?side1 ?side2 A146.out).mono ?_); (case side1 => repeat (first | exact (Kd.V_reads' HO_123001.out).2.2 | (with_reducible refine Kd.C_alloc ?_ _) | (with_reducible refine Kd.C_drewN ?_ _) | (with_reducible refine Kd.C_drew ?_))); (case side2 => exact (Kd.V_reads' HO_123001.out).2.1); rintro e w153 ⟨rfl, hb⟩; refine ⟨_, rfl, ?_⟩; have n0_ := Aside0.mk (Kd.R_below (by (with_reducible repeat (first | apply Kd.R_alloc | apply Kd.R_drewN | apply Kd.R_drew)); exact HO_5.out) hb); have n1_ := Aside0.mk (Kd.V_below (by (with_reducible repeat (first | apply Kd.V_alloc | apply Kd.V_drewN | apply Kd.V_drew)); exact HO_103001.out) hb); have n2_ := Aside0.mk (Kd.R_below (by (with_reducible repeat (first | apply Kd.R_alloc | apply Kd.R_drewN | apply Kd.R_drew)); exact HO_117001.out) hb); have n3_ := Aside0.mk (Kd.V_below (by (with_reducible repeat (first | apply Kd.V_alloc | apply Kd.V_drewN | apply Kd.V_drew)); exact HO_123001.out) hb); have n4_ := Aside0.mk (blk_below (g := gb101) (o := .cells #[.int .i64 a0_0, .slice A0_1 l0_1.length c0_1] 40 (0, 0)) (by (with_reducible repeat (first | refine blk_drewN ?_ _ | refine blk_drew ?_ | refine blk_alloc ?_ _)); exact BK101.out) hb); have n5_ := Aside0.mk (blk_below (g := gb102) (o := .cells #[.int .i64 a1_0, .slice A1_1 l1_1.length c1_1] 26 (0, 0)) (by (with_reducible repeat (first | refine blk_drewN ?_ _ | refine blk_drew ?_ | refine blk_alloc ?_ _)); exact BK102.out) hb); have n6_ := Aside0.mk (blk_below (g := gb116) (o := .cells #[.int .i64 t111, .slice Ao46 t112.length co46] 26 (0, 0)) (by (with_reducible repeat (first | refine blk_drewN ?_ _ | refine blk_drew ?_ | refine blk_alloc ?_ _)); exact BK116.out) hb); have n7_ := Aside0.mk (blk_below (g := gb122) (o := .cells #[.int .i64 x123000_3, .slice Ao152 x123001_3.length co152] 26 (0, 0)) (by (with_reducible repeat (first | refine blk_drewN ?_ _ | refine blk_drew ?_ | refine blk_alloc ?_ _)); exact BK122.out) hb); have n8_ := Aside0.mk (below_step (by repeat (first | (with_reducible first | exact HB.out | apply below_alloc | apply pw_below_drewN | apply below_drew1 | refine below_set ?_ GE101.out | refine below_set ?_ GE102.out | refine below_set ?_ GE116.out | refine below_set ?_ GE122.out) | exact HB.out)) hb); clear HO_5; clear HO_103001; clear HO_117001; clear HO_123001; clear BK101; clear BK102; clear BK116; clear BK122; clear HB; have HO_5 := n0_; have HO_103001 := n1_; have HO_117001 := n2_; have HO_123001 := n3_; have BK101 := n4_; have BK102 := n5_; have BK116 := n6_; have BK122 := n7_; have HB := n8_; clear n0_ n1_ n2_ n3_ n4_ n5_ n6_ n7_ n8_; (try clear hb); (try clear hb2); (try clear hk); (try clear hi)))
                        go_ret
                        exact ⟨by first | rfl | (simp [errW_none, errW_some] <;> rfl) | (simp [*, errW_none, errW_some] <;> rfl), by repeat (first | (with_reducible first | exact HB.out | apply below_alloc | apply pw_below_drewN | apply below_drew1 | refine below_set ?_ GE101.out | refine below_set ?_ GE102.out | refine below_set ?_ GE116.out | refine below_set ?_ GE122.out) | exact HB.out)⟩
                · rw [if_neg c59] at H
                  have c59b0 : (t120 == 0) = false := beq_eq_false_iff_ne.mpr c59
                  have c59b1 : (t120 != 0) = true := bne_iff_ne.mpr c59
                  replace H := Option.bind_eq_some_iff.mp H
                  obtain ⟨t121, A1540, H⟩ := H
                  replace H : (if t121 = 321 then (some ((t104.length : Int) == 0)) else (some false)) = some r := H
                  have A154 := Aside0.mk A1540
                  clear A1540
                  by_cases c155 : t121 = 321
                  · rw [if_pos c155] at H
                    have c155b0 : (t121 == 321) = true := beq_iff_eq.mpr c155
                    have c155b1 : (t121 != 321) = false := bne_eq_false_iff_eq.mpr c155
                    clear c155
                    obtain rfl := Option.some.inj H
                    go_wp2_with (first | ((with_reducible refine gate_callee (f := 19) rfl ?_); refine goesL_ (some 67) rfl rfl Try.func19 (by kernel_rfl) rfl #[.int .i64 t107] rfl (by (try simp only [List.map_toArray, List.map_cons, List.map_nil]); first | done | rfl | (simp only [List.length_drop, List.length_take]; rfl)) ?_; (with_reducible refine (slopelaw3_num.calls t107 t120 _ A58.out).mono ?_); rintro e w' ⟨rfl, ⟨nd, rfl⟩⟩; refine ⟨_, rfl, ?_⟩) | ((with_reducible refine gate_callee (f := 19) rfl ?_); refine goesL_ (some 70) rfl rfl Try.func19 (by kernel_rfl) rfl #[.int .i64 t107] rfl (by (try simp only [List.map_toArray, List.map_cons, List.map_nil]); first | done | rfl | (simp only [List.length_drop, List.length_take]; rfl)) ?_; (with_reducible refine (slopelaw3_num.calls t107 t121 _ A154.out).mono ?_); rintro e w' ⟨rfl, ⟨nd, rfl⟩⟩; refine ⟨_, rfl, ?_⟩; obtain ⟨Ao156, co156, eo156⟩ := Kd.R_slice HO_5.out; subst eo156))
                    go_ret
                    exact ⟨by first | rfl | (simp [errW_none, errW_some] <;> rfl) | (simp [*, errW_none, errW_some] <;> rfl), by repeat (first | (with_reducible first | exact HB.out | apply below_alloc | apply pw_below_drewN | apply below_drew1 | refine below_set ?_ GE101.out | refine below_set ?_ GE102.out | refine below_set ?_ GE116.out) | exact HB.out)⟩
                  · rw [if_neg c155] at H
                    have c155b0 : (t121 == 321) = false := beq_eq_false_iff_ne.mpr c155
                    have c155b1 : (t121 != 321) = true := bne_iff_ne.mpr c155
                    obtain rfl := Option.some.inj H
                    exact absurd hr (by decide)
  · replace c4 := Bool.eq_false_iff.mpr c4
    subst c4
    have H1 : (some false) = some r := by rw [if_neg (show ¬ (false = true) by decide)] at H; exact H
    clear H
    have H := H1
    clear H1
    obtain rfl := Option.some.inj H
    exact absurd hr (by decide)
end Go.Proofs.Ytjmkhdhffmlhiaa.PAll
end
section
namespace Go.Proofs.Ytjmkhdhffmlhiaa.PAll
set_option linter.unusedVariables false
open Go.RowKit Go.Proofs.YtjmkhdhffmlhiaaW.PrintWords Go.Proofs.YtjmkhdhffmlhiaaW.PrintMore
theorem gain_mono {n : Nat} {p q : Nat → Bool} (h : ∀ e, q e = true → p e = true) (x : S26) : gain n q x ≤ gain n p x := by
  unfold gain
  exact List.countP_mono_left (fun e _ he => by
    rw [Bool.and_eq_true] at he ⊢
    exact ⟨h e he.1, he.2⟩)
theorem scan_max (n : Nat) (p : Nat → Bool) : ∀ (l : List S26) (i : Nat) (b : Int) (m : Nat), m ≤ (scan n p l i b m).2 ∧ ∀ x ∈ l, gain n p x ≤ (scan n p l i b m).2
  | [], _, _, _ => ⟨Nat.le_refl _, fun x hx => by cases hx⟩
  | x :: l, i, b, m => by
    unfold scan
    by_cases h : m < gain n p x
    · rw [if_pos h]
      obtain ⟨h1, h2⟩ := scan_max n p l (i + 1) (i : Int) (gain n p x)
      refine ⟨by omega, fun y hy => ?_⟩
      rcases List.mem_cons.1 hy with rfl | hy
      · exact h1
      · exact h2 y hy
    · rw [if_neg h]
      obtain ⟨h1, h2⟩ := scan_max n p l (i + 1) b m
      refine ⟨h1, fun y hy => ?_⟩
      rcases List.mem_cons.1 hy with rfl | hy
      · omega
      · exact h2 y hy
def Greedy (n : Nat) (l : List S26) : (Nat → Bool) → Nat → List Int → Prop
  | p, _, [] => size_ n p = 0
  | p, most, i :: rs => ∃ j : Nat, ∃ h : j < l.length, i = ((j : Nat) : Int) ∧ 0 < gain n p l[j] ∧ gain n p l[j] ≤ most ∧ Greedy n l (fun e => p e && !hb l[j].f1 e) (gain n p l[j]) rs
theorem cover_greedy (n : Nat) (hn : n ≤ 4096) (l : List S26) (ht : Tab n l) (hl : l.length ≤ 9223372036854775807) : ∀ (c : Nat) (p : Nat → Bool) (acc : List Int), size_ n p = c → acc.length + c ≤ 4096 →
    (∀ e, e < n → p e = true → ∃ x ∈ l, hb x.f1 e = true) →
    ∃ rs, rs.length ≤ c ∧ (∀ most, (∀ x ∈ l, gain n p x ≤ most) → Greedy n l p most rs) ∧ ∀ ws, Is n p ws → Ev (fun k => bitset_Cover.l0 k acc (n : Int) l (n : Int) ws) (acc ++ rs, 0) := by
  intro c
  induction c using Nat.strongRecOn with
  | _ c ih =>
    intro p acc hc ha hcov
    by_cases h0 : c = 0
    · refine ⟨[], by simp, fun _ _ => (by unfold Greedy; omega), fun ws hws => ?_⟩
      have h1 := Count_eq hws.wds (hws.may hn)
      have h2 : cnt ws = 0 := by rw [hws.cnt]; exact hc.trans h0
      rw [h2] at h1
      refine Ev.step (f := fun k => (bitset_Count.f k (n : Int) ws).bind fun t113 => (if t113 > 0 then (bitset_Cover.l1 k acc 0 0 l (l.length : Int) 0 (n : Int) l (n : Int) ws) else (some (acc, 0)))) (fun k => ?_) (Ev.bind (f := fun k t113 => (if t113 > 0 then (bitset_Cover.l1 k acc 0 0 l (l.length : Int) 0 (n : Int) l (n : Int) ws) else (some (acc, 0)))) h1 (Ev.const fun k => ?_))
      · rw [bitset_Cover.l0]
      · rw [if_neg (by omega), List.append_nil]
    · rcases scan_says n p l 0 0 0 with ⟨h1, h2⟩ | ⟨j, hj, h1, h2⟩
      · obtain ⟨e, h3, h4⟩ := size_pos.1 (show 0 < size_ n p by omega)
        obtain ⟨x, h5, h6⟩ := hcov e h3 h4
        have := gain_pos h3 h4 h6
        have := h2 x h5
        omega
      · have hsz := size_less n p l[j]
        have hmx := (scan_max n p l 0 0 0).2
        rw [h1] at hmx
        dsimp only at hmx
        obtain ⟨rs, h3, h4, h5⟩ := ih (size_ n (fun e => p e && !hb l[j].f1 e)) (by omega) (fun e => p e && !hb l[j].f1 e) (acc ++ [((j : Nat) : Int)]) rfl (by rw [List.length_append]; simp only [List.length_cons, List.length_nil]; omega)
          (fun e he hp => hcov e he (by revert hp; cases p e <;> simp))
        rw [Nat.zero_add] at h1
        refine ⟨((j : Nat) : Int) :: rs, by simp only [List.length_cons]; omega, fun most hm => ?_, fun ws hws => ?_⟩
        · exact ⟨j, hj, rfl, h2, hm _ (List.getElem_mem hj), h4 _ (fun x hx => Nat.le_trans (gain_mono (fun e he => by revert he; cases p e <;> simp) x) (hmx x hx))⟩
        · have g1 := Count_eq hws.wds (hws.may hn)
          have g2 : cnt ws = c := by rw [hws.cnt]; exact hc
          rw [g2] at g1
          rw [show acc ++ ((j : Nat) : Int) :: rs = (acc ++ [((j : Nat) : Int)]) ++ rs by simp]
          refine Ev.step (f := fun k => (bitset_Count.f k (n : Int) ws).bind fun t113 => (if t113 > 0 then (bitset_Cover.l1 k acc 0 0 l (l.length : Int) 0 (n : Int) l (n : Int) ws) else (some (acc, 0)))) (fun k => ?_) (Ev.bind (f := fun k t113 => (if t113 > 0 then (bitset_Cover.l1 k acc 0 0 l (l.length : Int) 0 (n : Int) l (n : Int) ws) else (some (acc, 0)))) g1
            (Ev.congr (f := fun k => bitset_Cover.l1 k acc 0 ((0 : Nat) : Int) l (l.length : Int) ((0 : Nat) : Int) (n : Int) l (n : Int) ws) (fun k => ?_) (cover_l1 n hn l ht hl p ws hws acc _ l.length 0 0 0 (by omega) (fun b' m' h => ?_))))
          · rw [bitset_Cover.l0]
          · rw [if_pos (by omega)]; rfl
          · rw [List.drop_zero, h1] at h
            cases h
            obtain ⟨u0, u1, u2, u3⟩ := ht l[j] (List.getElem_mem hj)
            obtain ⟨q, t1, t2⟩ := Minus_eq (n : Int) ws (n : Int) l[j].f1 hws.wds u1 (by have := hws.len; omega) (by omega)
            obtain ⟨vs, v1, rfl⟩ : ∃ vs, Is n (fun e => p e && !hb l[j].f1 e) vs ∧ q = ((n : Int), vs, 0) := by
              rcases t1 with ⟨t1, _⟩ | ⟨_, _, ⟨t1, _⟩ | ⟨_, us, w1, rfl⟩⟩
              · exact absurd ⟨hws.may hn, u3⟩ t1
              · exact absurd rfl t1
              · refine ⟨us, ?_, rfl⟩
                rw [Int.toNat_natCast] at w1
                refine w1.congr fun e he => ?_
                rw [hws.has]; simp [he]
            refine Ev.congr (f := fun k => (bitset_Minus.f k (n : Int) ws (n : Int) l[j].f1).bind fun bt118 => (bitset_Cover.l0 k (acc ++ [((j : Nat) : Int)]) (n : Int) l bt118.1 bt118.2.1)) (fun k => ?_) (Ev.bind (f := fun k bt118 => (bitset_Cover.l0 k (acc ++ [((j : Nat) : Int)]) (n : Int) l bt118.1 bt118.2.1)) t2 (h5 vs v1))
            rw [if_pos (by omega), if_pos (by omega), if_pos (by omega), rd26 hj, u0]
theorem num_eq (x : Int) : slopelaw3_num.f x = some x := rfl
theorem rdl {l : List Int} {i : Nat} (h : i < l.length) : rd l (i : Int) = l[i] := by simp [rd, List.getD_eq_getElem?_getD, List.getElem?_eq_getElem h]
theorem covered_l0 (n : Nat) (hn : n ≤ 4096) (l : List S26) (ht : Tab n l) (hl : l.length ≤ 9223372036854775807) (rs : List Int) (hrs : rs.length ≤ 4096) : ∀ (d i most : Nat) (p : Nat → Bool) (ws : List Int), i + d = rs.length → Is n p ws → Greedy n l p most (rs.drop i) →
    Ev (fun k => slopelaw3_BitCovered.l0 k rs (most : Int) (i : Int) (n : Int) l (n : Int) ws) true := by
  intro d
  induction d with
  | zero =>
    intro i most p ws hi hws hg
    rw [List.drop_eq_nil_of_le (by omega)] at hg
    have h1 := Count_eq hws.wds (hws.may hn)
    have h2 : cnt ws = 0 := by rw [hws.cnt]; exact hg
    rw [h2] at h1
    refine Ev.step (f := fun k => (bitset_Count.f k (n : Int) ws).bind fun t123 => (some (t123 == 0))) (fun k => ?_) (Ev.bind (f := fun k t123 => some (t123 == 0)) h1 (Ev.const fun k => rfl))
    conv => lhs; rw [slopelaw3_BitCovered.l0]
    rw [if_neg (by omega)]
  | succ d ih =>
    intro i most p ws hi hws hg
    have hlt : i < rs.length := by omega
    rw [List.drop_eq_getElem_cons hlt] at hg
    obtain ⟨j, hj, e1, h1, h2, h3⟩ := hg
    have er : rd rs (i : Int) = ((j : Nat) : Int) := by rw [rdl hlt]; exact e1
    obtain ⟨u0, u1, u2, u3⟩ := ht l[j] (List.getElem_mem hj)
    obtain ⟨q, t1, t2⟩ := Minus_eq (n : Int) ws (n : Int) l[j].f1 hws.wds u1 (by have := hws.len; omega) (by omega)
    obtain ⟨vs, v1, rfl⟩ : ∃ vs, Is n (fun e => p e && !hb l[j].f1 e) vs ∧ q = ((n : Int), vs, 0) := by
      rcases t1 with ⟨t1, _⟩ | ⟨_, _, ⟨t1, _⟩ | ⟨_, us, w1, rfl⟩⟩
      · exact absurd ⟨hws.may hn, u3⟩ t1
      · exact absurd rfl t1
      · refine ⟨us, ?_, rfl⟩
        rw [Int.toNat_natCast] at w1
        refine w1.congr fun e he => ?_
        rw [hws.has]; simp [he]
    have c1 := Count_eq hws.wds (hws.may hn)
    have c2 := Count_eq v1.wds (v1.may hn)
    have hc1 : cnt ws = size_ n p := hws.cnt
    have hc2 : cnt vs = size_ n (fun e => p e && !hb l[j].f1 e) := v1.cnt
    have hsz := size_less n p l[j]
    have hle : size_ n p ≤ n := by
      have := List.countP_le_length (p := p) (l := List.range n)
      rw [List.length_range] at this
      exact this
    have hw : wrap64 ((cnt ws : Int) - (cnt vs : Int)) = ((gain n p l[j] : Nat) : Int) := by
      rw [hc1, hc2]; unfold wrap64; omega
    refine Ev.step (f := fun k => slopelaw3_BitCovered.j3 k rs (most : Int) (i : Int) false (n : Int) l (n : Int) ws) (fun k => ?_) ?_
    · conv => lhs; rw [slopelaw3_BitCovered.l0]
      rw [if_pos (by omega), if_pos (by omega), er, if_neg (by omega), show decide (((j : Nat) : Int) ≥ (l.length : Int)) = false from decide_eq_false (by omega)]
    · refine Ev.step (f := fun k => (bitset_Minus.f k (n : Int) ws (n : Int) l[j].f1).bind fun bt128 => ((bitset_Count.f k (n : Int) ws).bind fun t134 => ((bitset_Count.f k bt128.1 bt128.2.1).bind fun t135 => ((slopelaw3_num.f bt128.2.2).bind fun t136 => (if t136 = 0 then (if (wrap64 (t134 - t135)) < 1 then (some false) else (if (wrap64 (t134 - t135)) > (most : Int) then (some false) else (slopelaw3_BitCovered.l0 k rs (wrap64 (t134 - t135)) (wrap64 ((i : Int) + 1)) (n : Int) l bt128.1 bt128.2.1))) else (some false)))))) (fun k => ?_) ?_
      · conv => lhs; rw [slopelaw3_BitCovered.j3]
        rw [if_neg (by simp), if_pos (by omega), if_pos (by omega), er, if_pos (by omega), if_pos (by omega), rd26 hj, u0]
      · refine Ev.bind (f := fun k bt128 => ((bitset_Count.f k (n : Int) ws).bind fun t134 => ((bitset_Count.f k bt128.1 bt128.2.1).bind fun t135 => ((slopelaw3_num.f bt128.2.2).bind fun t136 => (if t136 = 0 then (if (wrap64 (t134 - t135)) < 1 then (some false) else (if (wrap64 (t134 - t135)) > (most : Int) then (some false) else (slopelaw3_BitCovered.l0 k rs (wrap64 (t134 - t135)) (wrap64 ((i : Int) + 1)) (n : Int) l bt128.1 bt128.2.1))) else (some false)))))) t2 ?_
        refine Ev.bind (f := fun k t134 => ((bitset_Count.f k (n : Int) vs).bind fun t135 => ((slopelaw3_num.f 0).bind fun t136 => (if t136 = 0 then (if (wrap64 (t134 - t135)) < 1 then (some false) else (if (wrap64 (t134 - t135)) > (most : Int) then (some false) else (slopelaw3_BitCovered.l0 k rs (wrap64 (t134 - t135)) (wrap64 ((i : Int) + 1)) (n : Int) l (n : Int) vs))) else (some false))))) c1 ?_
        refine Ev.bind (f := fun k t135 => ((slopelaw3_num.f 0).bind fun t136 => (if t136 = 0 then (if (wrap64 ((cnt ws : Int) - t135)) < 1 then (some false) else (if (wrap64 ((cnt ws : Int) - t135)) > (most : Int) then (some false) else (slopelaw3_BitCovered.l0 k rs (wrap64 ((cnt ws : Int) - t135)) (wrap64 ((i : Int) + 1)) (n : Int) l (n : Int) vs))) else (some false)))) c2 ?_
        refine Ev.congr (fun k => ?_) (ih (i + 1) (gain n p l[j]) _ vs (by omega) v1 h3)
        rw [num_eq, Option.bind_some, if_pos rfl, hw, if_neg (by omega), if_neg (by omega), show wrap64 ((i : Int) + 1) = ((i + 1 : Nat) : Int) by unfold wrap64; omega]
set_option maxHeartbeats 4000000 in
theorem BitCovered_true (n : Int) (l : List S26) (m : Int) (s : List Int) (hl : l.length ≤ 9223372036854775807) (hg : Goods l) (hw : Wds s) (hs : s.length ≤ 9223372036854775807) : Ev (fun k => slopelaw3_BitCovered.f k n l m s) true := by
  have t1 := MayTable_eq n l hl hg
  have t2 := rMayTable_eq n l hl hg
  have m1 := May_eq m s hw hs
  have m2 := rMay_eq m s hw hs
  have bj : Ev (fun k => bitset_Cover.j0 k true n l m s) ([], 61) := Ev.step (f := fun _ => some ([], 61)) (fun k => by rw [bitset_Cover.j0]; rw [if_pos rfl]) (Ev.now _)
  have kb : ∀ r, Ev (fun k => if tabp n l = true then (bitset_Cover.j0 k (!(may m s)) n l m s) else (bitset_Cover.j0 k true n l m s)) r → Ev (fun k => bitset_Cover.f k n l m s) r := fun r h =>
    Ev.bind (f := fun k t103 => (if t103 = true then ((bitset_May.f m s).bind fun t104 => (bitset_Cover.j0 k (!t104) n l m s)) else (bitset_Cover.j0 k true n l m s))) t1 (Ev.congr (fun k => by rw [m1, Option.bind_some]) h)
  have go : ∀ rs e, Ev (fun k => bitset_Cover.f k n l m s) (rs, e) → Ev (fun k => if tabp n l = true then (if may m s = true then (slopelaw3_BitCovered.j0 k rs e (n != m) n l m s) else (slopelaw3_BitCovered.j0 k rs e true n l m s)) else (slopelaw3_BitCovered.j0 k rs e true n l m s)) true → Ev (fun k => slopelaw3_BitCovered.f k n l m s) true := fun rs e h1 h2 =>
    Ev.bind (f := fun k t103 => (if t103 = true then ((bitset_Cover.f k n l m s).bind fun bt104 => ((sloperef3_MayTable.f k n l).bind fun t108 => (if t108 = true then ((sloperef3_May.f k m s).bind fun t109 => (if t109 = true then (slopelaw3_BitCovered.j0 k bt104.1 bt104.2 (n != m) n l m s) else (slopelaw3_BitCovered.j0 k bt104.1 bt104.2 true n l m s))) else (slopelaw3_BitCovered.j0 k bt104.1 bt104.2 true n l m s)))) else (some false))) alive_ev
      (Ev.congr (f := fun k => (bitset_Cover.f k n l m s).bind fun bt104 => ((sloperef3_MayTable.f k n l).bind fun t108 => (if t108 = true then ((sloperef3_May.f k m s).bind fun t109 => (if t109 = true then (slopelaw3_BitCovered.j0 k bt104.1 bt104.2 (n != m) n l m s) else (slopelaw3_BitCovered.j0 k bt104.1 bt104.2 true n l m s))) else (slopelaw3_BitCovered.j0 k bt104.1 bt104.2 true n l m s)))) (fun k => by rw [if_pos rfl])
        (Ev.bind (f := fun k bt104 => ((sloperef3_MayTable.f k n l).bind fun t108 => (if t108 = true then ((sloperef3_May.f k m s).bind fun t109 => (if t109 = true then (slopelaw3_BitCovered.j0 k bt104.1 bt104.2 (n != m) n l m s) else (slopelaw3_BitCovered.j0 k bt104.1 bt104.2 true n l m s))) else (slopelaw3_BitCovered.j0 k bt104.1 bt104.2 true n l m s)))) h1
          (Ev.bind (f := fun k t108 => (if t108 = true then ((sloperef3_May.f k m s).bind fun t109 => (if t109 = true then (slopelaw3_BitCovered.j0 k rs e (n != m) n l m s) else (slopelaw3_BitCovered.j0 k rs e true n l m s))) else (slopelaw3_BitCovered.j0 k rs e true n l m s))) t2 (by
            by_cases hT : tabp n l = true
            · refine Ev.congr (f := fun k => (sloperef3_May.f k m s).bind fun t109 => (if t109 = true then (slopelaw3_BitCovered.j0 k rs e (n != m) n l m s) else (slopelaw3_BitCovered.j0 k rs e true n l m s))) (fun k => by rw [if_pos hT]) (Ev.bind (f := fun k t109 => (if t109 = true then (slopelaw3_BitCovered.j0 k rs e (n != m) n l m s) else (slopelaw3_BitCovered.j0 k rs e true n l m s))) m2 (Ev.congr (fun k => ?_) h2))
              rw [if_pos hT]
            · refine Ev.congr (fun k => ?_) h2
              rw [if_neg hT, if_neg hT]))))
  have jt : ∀ e, e ≠ 0 → Ev (fun k => slopelaw3_BitCovered.j0 k [] e true n l m s) true := fun e he => by
    refine Ev.step (f := fun _ => some true) (fun k => ?_) (Ev.now _)
    rw [slopelaw3_BitCovered.j0]
    rw [if_pos rfl, num_eq, Option.bind_some, if_neg he]
    rfl
  by_cases ht : TabP n l
  · have hT := tabp_true.2 ht
    by_cases hm : MayP m s
    · have hM := may_true.2 hm
      by_cases hnm : n = m
      · subst hnm
        obtain ⟨N, rfl⟩ := Int.eq_ofNat_of_zero_le ht.1
        have hN : N ≤ 4096 := by have := ht.2.1; omega
        have hTab : Tab N l := fun x hx => by
          obtain ⟨a1, a2⟩ := ht.2.2.2 x hx
          unfold MayS at a1
          rw [a2] at a1
          exact ⟨a2, (hg x hx).1, by simpa using a1.2.2.1, a1⟩
        have hsz : size_ N (hb s) ≤ N := by
          have := List.countP_le_length (p := hb s) (l := List.range N)
          rw [List.length_range] at this
          exact this
        obtain ⟨q, u1, u2⟩ := Union_eq (N : Int) l hl hg
        obtain ⟨us, u3, rfl⟩ : ∃ us, Is N (manyb false l) us ∧ q = ((N : Int), us, 0) := by
          rcases u1 with ⟨e, e1, e2, _⟩ | ⟨_, us, u3, rfl⟩
          · exact absurd (e2.eq (.inr (.inr ⟨rfl, fun x hx => (ht.2.2.2 x hx).1, fun x hx => (ht.2.2.2 x hx).2, ht.1, ht.2.1⟩))) e1
          · exact ⟨us, by simpa using u3, rfl⟩
        have hS := Subset_eq (N : Int) s (N : Int) us hw u3.wds hs (by have := u3.len; omega)
        have kc : ∀ r, Ev (fun k => if nonep (fun x y => x && !y) (N : Int) s (N : Int) us = true then (bitset_Cover.l0 k ([] : List Int) (N : Int) l (N : Int) s) else (some (([] : List Int), 321))) r → Ev (fun k => bitset_Cover.f k (N : Int) l (N : Int) s) r := fun r h => by
          refine kb r (Ev.congr (f := fun k => bitset_Cover.j0 k false (N : Int) l (N : Int) s) (fun k => by rw [if_pos hT, hM]; rfl) ?_)
          refine Ev.step (f := fun k => (bitset_Union.f k (N : Int) l).bind fun bt105 => ((bitset_Subset.f k (N : Int) s bt105.1 bt105.2.1).bind fun t111 => (if t111 = true then (bitset_Cover.l0 k ([] : List Int) (N : Int) l (N : Int) s) else (some (([] : List Int), 321))))) (fun k => ?_) (Ev.bind (f := fun k bt105 => ((bitset_Subset.f k (N : Int) s bt105.1 bt105.2.1).bind fun t111 => (if t111 = true then (bitset_Cover.l0 k ([] : List Int) (N : Int) l (N : Int) s) else (some (([] : List Int), 321))))) u2
            (Ev.bind (f := fun k t111 => (if t111 = true then (bitset_Cover.l0 k ([] : List Int) (N : Int) l (N : Int) s) else (some (([] : List Int), 321)))) hS h))
          rw [bitset_Cover.j0]
          rw [if_neg (by simp), if_pos rfl]
        have kj : ∀ rs e, Ev (fun k => slopelaw3_BitCovered.j1 k rs e (nonep (fun x y => x && !y) (N : Int) s (N : Int) us != (e == 0)) (N : Int) l (N : Int) s) true → Ev (fun k => slopelaw3_BitCovered.j0 k rs e false (N : Int) l (N : Int) s) true := fun rs e h => by
          refine Ev.step (f := fun k => ((bitset_Union.f k (N : Int) l).bind fun bt111 => ((slopelaw3_num.f bt111.2.2).bind fun t117 => (if t117 = 0 then ((bitset_Subset.f k (N : Int) s bt111.1 bt111.2.1).bind fun t118 => ((slopelaw3_num.f e).bind fun t119 => (slopelaw3_BitCovered.j1 k rs e (t118 != (t119 == 0)) (N : Int) l (N : Int) s))) else (slopelaw3_BitCovered.j1 k rs e true (N : Int) l (N : Int) s))))) (fun k => ?_) (Ev.bind (f := fun k bt111 => ((slopelaw3_num.f bt111.2.2).bind fun t117 => (if t117 = 0 then ((bitset_Subset.f k (N : Int) s bt111.1 bt111.2.1).bind fun t118 => ((slopelaw3_num.f e).bind fun t119 => (slopelaw3_BitCovered.j1 k rs e (t118 != (t119 == 0)) (N : Int) l (N : Int) s))) else (slopelaw3_BitCovered.j1 k rs e true (N : Int) l (N : Int) s)))) u2
            (Ev.congr (f := fun k => (bitset_Subset.f k (N : Int) s (N : Int) us).bind fun t118 => (slopelaw3_BitCovered.j1 k rs e (t118 != (e == 0)) (N : Int) l (N : Int) s)) (fun k => ?_) (Ev.bind (f := fun k t118 => (slopelaw3_BitCovered.j1 k rs e (t118 != (e == 0)) (N : Int) l (N : Int) s)) hS h)))
          · rw [slopelaw3_BitCovered.j0]
            rw [if_neg (by simp)]
          · rw [num_eq, Option.bind_some, if_pos rfl]
            congr 1
        by_cases hsub : NoneP (fun x y => x && !y) (N : Int) s (N : Int) us
        · have hcov : ∀ e, e < N → hb s e = true → ∃ x ∈ l, hb x.f1 e = true := fun e he hp => by
            have h5 := hsub.2.2.2 e
            dsimp only at h5
            rw [hp, u3.has, decide_eq_true he] at h5
            have h6 : manyb false l e = true := by revert h5; cases manyb false l e <;> simp
            unfold manyb at h6
            rw [if_neg (by simp), List.any_eq_true] at h6
            exact h6
          obtain ⟨rs, g1, g2, g3⟩ := cover_greedy N hN l hTab hl (size_ N (hb s)) (hb s) [] rfl (by simp only [List.length_nil]; omega) hcov
          have hIs : Is N (hb s) s := by have := hm.is hw; simpa using this
          have hC := kc (rs, 0) (Ev.congr (fun k => by rw [if_pos (nonep_true.2 hsub)]) (g3 s hIs))
          refine go rs 0 hC (Ev.congr (f := fun k => slopelaw3_BitCovered.j0 k rs 0 false (N : Int) l (N : Int) s) (fun k => ?_) (kj rs 0 ?_))
          · rw [if_pos hT, if_pos hM, show ((N : Int) != (N : Int)) = false by simp]
          · rw [nonep_true.2 hsub]
            refine Ev.step (f := fun k => slopelaw3_BitCovered.l0 k rs ((N + 1 : Nat) : Int) ((0 : Nat) : Int) (N : Int) l (N : Int) s) (fun k => ?_) (covered_l0 N hN l hTab hl rs (by omega) rs.length 0 (N + 1) (hb s) s (by omega) hIs (by
              rw [List.drop_zero]
              exact g2 _ (fun x _ => Nat.le_succ_of_le (gain_le N (hb s) x))))
            rw [slopelaw3_BitCovered.j1]
            rw [if_neg (by simp), num_eq, Option.bind_some, if_pos rfl, show wrap64 ((N : Int) + 1) = ((N + 1 : Nat) : Int) by unfold wrap64; omega]
            rfl
        · have hno : nonep (fun x y => x && !y) (N : Int) s (N : Int) us = false := by
            cases h : nonep (fun x y => x && !y) (N : Int) s (N : Int) us
            · rfl
            · exact absurd (nonep_true.1 h) hsub
          have hC := kc ([], 321) (Ev.const fun k => by rw [hno, if_neg (by simp)])
          refine go [] 321 hC (Ev.congr (f := fun k => slopelaw3_BitCovered.j0 k [] 321 false (N : Int) l (N : Int) s) (fun k => ?_) (kj [] 321 ?_))
          · rw [if_pos hT, if_pos hM, show ((N : Int) != (N : Int)) = false by simp]
          · rw [hno]
            refine Ev.step (f := fun _ => some true) (fun k => ?_) (Ev.now _)
            rw [slopelaw3_BitCovered.j1]
            rw [if_neg (by decide), num_eq, Option.bind_some, if_neg (by decide), Option.bind_some, if_pos rfl]
            rfl
      · have hC := kb ([], 60) (Ev.congr (f := fun k => bitset_Cover.j0 k false n l m s) (fun k => by rw [if_pos hT, hM]; rfl) (Ev.step (f := fun _ => some ([], 60)) (fun k => by rw [bitset_Cover.j0]; rw [if_neg (by simp), if_neg hnm]) (Ev.now _)))
        refine go [] 60 hC (Ev.congr (fun k => ?_) (jt 60 (by decide)))
        rw [if_pos hT, if_pos hM, show (n != m) = true by simpa using hnm]
    · have hM := may_false.2 hm
      have hC := kb ([], 61) (Ev.congr (fun k => by rw [if_pos hT, hM]; rfl) bj)
      refine go [] 61 hC (Ev.congr (fun k => ?_) (jt 61 (by decide)))
      rw [if_pos hT, hM, if_neg (by simp)]
  · have hT := tabp_false.2 ht
    have hC := kb ([], 61) (Ev.congr (fun k => by rw [hT, if_neg (by simp)]) bj)
    refine go [] 61 hC (Ev.congr (fun k => ?_) (jt 61 (by decide)))
    rw [hT, if_neg (by simp)]
end Go.Proofs.Ytjmkhdhffmlhiaa.PAll
end
