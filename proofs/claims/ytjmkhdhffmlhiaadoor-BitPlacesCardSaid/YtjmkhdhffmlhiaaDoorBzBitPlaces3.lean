import Derived.Test.YtjmkhdhffmlhiaaDoorBzBitPlaces2
import Derived.Lib.Hide
import Derived.StillTailTactics
import Derived.Deep.RegionHeld3
section
namespace Go.Proofs.YtjmkhdhffmlhiaaDoor.PAll
open Go.RowKit Go.Proofs.YtjmkhdhffmlhiaaDoorW.PrintWords Go.Proofs.YtjmkhdhffmlhiaaDoorW.PrintLast Go.Proofs.YtjmkhdhffmlhiaaDoorW.PrintMore
attribute [local go_sem] max2_int min2_int max_two min_two max_three min_three max_four min_four w64_u8 w64_mod256   -- for this text's walks alone
set_option linter.unusedVariables false
set_option linter.unusedSimpArgs false
def bitset_Last.f (k : Nat) (a0_0 : Int) (l0_1 : List Int) (a1 : Int) : Option (Int) := if a1 < 0 then (some (-1)) else ((bitset_Rank.f k a0_0 l0_1 (wrap64 ((mn a1 4096) + 1))).bind fun t102 => ((bitset_Select.f k a0_0 l0_1 (wrap64 (t102 - 1))).bind fun t103 => (some t103)))
def bitset_Last.T3 : Bool × List (List Nat × List Nat) := (true, [([], []), ([], []), ([], []), ([2], [2]), ([3], [3]), ([1, 4], [1, 4]), ([5], [5]), ([0, 6, 5], [0, 6]), ([7, 7, 0, 1, 2, 3, 4, 5, 6, 7], [7])])
def bitset_Last.B3 : List Nat := [0, 0, 0, 4, 12, 30, 62, 127, 255]
theorem bitset_Last.tab3 : rtab .any (opsOf Tryd.f30 3) = bitset_Last.T3 := by kernel_rfl
theorem bitset_Last.bits3 : waitsOk bitset_Last.T3.2 bitset_Last.B3 = true := by kernel_rfl
set_option maxHeartbeats 8000000 in
set_option maxRecDepth 100000 in
theorem bitset_Last.calls (k : Nat) (a0_0 : Int) (A0_1 : Option Addr) (c0_1 : Nat) (l0_1 : List Int) (a1 : Int) (r : Int) (w : World) (hr0_1 : Kd.C (Kd.int .u64) w A0_1 l0_1.length l0_1) (hc0_1 : l0_1.length ≤ c0_1) (hG : Tz w) (h : bitset_Last.f k a0_0 l0_1 a1 = some r) :
    Calls Tryd.prog 30 #[.agg #[.int .i64 a0_0, .slice A0_1 l0_1.length c0_1], .int .i64 a1] w fun e w' => e = .returned (.int .i64 r) ∧ Below w.heap.size w w' := by
  have hu24 := Tryd.underlying24
  have HR0_1 := Aside0.mk hr0_1
  have HC0_1 := Aside0.mk hc0_1
  clear hr0_1 hc0_1
  have HB := Aside0.mk (Below.refl w.heap.size w)
  have HG := Aside0.mk hG
  clear hG
  have H : (if a1 < 0 then (some (-1)) else ((bitset_Rank.f k a0_0 l0_1 (wrap64 ((mn a1 4096) + 1))).bind fun t102 => ((bitset_Select.f k a0_0 l0_1 (wrap64 (t102 - 1))).bind fun t103 => (some t103)))) = some r := h
  clear h
  by_cases c3 : a1 < 0
  · rw [if_pos c3] at H
    have c3b0 : decide (a1 < 0) = true := decide_eq_true c3
    clear c3
    obtain rfl := Option.some.inj H
    go_enter Tryd.func30, Tryd.ntmps30
    go_wp2_with (first | ((with_reducible refine gate_dst (N := 2) rfl ?_); refine box_event ?hg (N := 2) ?hd (cs := #[.int .i64 a0_0, .slice A0_1 l0_1.length c0_1]) (t := 24) ?hr ?_; (case hd => rfl); (case hg => rfl); (case hr => first | (go_simp; done) | (go_simp; rfl)); intro gb101 hg w4 hbox hb; have n0_ := Aside0.mk (below_step (by repeat (first | (with_reducible first | exact HB.out | apply below_alloc | apply pw_below_drewN | apply below_drew1) | exact HB.out)) hb); have n1_ := Aside0.mk (hbox); have n2_ := Aside0.mk ((by rw [hg]; exact (below_size (by repeat (first | (with_reducible first | exact HB.out | apply below_alloc | apply pw_below_drewN | apply below_drew1) | exact HB.out))) : w.heap.size ≤ gb101)); have n3_ := Aside0.mk ((by rw [hg]; exact (below_size (by repeat (first | (with_reducible first | exact HB.out | apply below_alloc | apply pw_below_drewN | apply below_drew1) | exact HB.out))) : w.heap.size ≤ gb101)); clear HB; have HB := n0_; have BK101 := n1_; have GW101 := n2_; have GE101 := n3_; clear n0_ n1_ n2_ n3_; clear hb hbox hg))
    go_ret
    exact ⟨by first | rfl | (simp [errW_none, errW_some] <;> rfl) | (simp [*, errW_none, errW_some] <;> rfl), by repeat (first | (with_reducible first | exact HB.out | apply below_alloc | apply pw_below_drewN | apply below_drew1 | refine below_set ?_ GE101.out) | exact HB.out)⟩
  · rw [if_neg c3] at H
    have c3b0 : decide (a1 < 0) = false := decide_eq_false c3
    clear c3
    obtain ⟨ji5, hji5⟩ : ∃ j_ : Int, (mn a1 4096) = j_ := ⟨_, rfl⟩
    replace H : ((bitset_Rank.f k a0_0 l0_1 (wrap64 ((ji5) + 1))).bind fun t102 => ((bitset_Select.f k a0_0 l0_1 (wrap64 (t102 - 1))).bind fun t103 => (some t103))) = some r := by first | (rw [hji5] at H; exact H) | (simp only [hji5] at H ⊢; exact H)
    (try (have hji5h : ji5 ≤ 4096 := by (rw [← hji5]; unfold mn; (repeat' split) <;> omega)))
    (try (have hji5g : ji5 ≤ 64 := by omega))
    have hji5_ : (if 4096 < a1 then 4096 else a1) = ji5 := hji5
    replace H := Option.bind_eq_some_iff.mp H
    obtain ⟨t102, A60, H⟩ := H
    replace H : ((bitset_Select.f k a0_0 l0_1 (wrap64 (t102 - 1))).bind fun t103 => (some t103)) = some r := H
    have A6 := Aside0.mk A60
    clear A60
    replace H := Option.bind_eq_some_iff.mp H
    obtain ⟨t103, A70, H⟩ := H
    replace H : (some t103) = some r := H
    have A7 := Aside0.mk A70
    clear A70
    obtain rfl := Option.some.inj H
    go_enter Tryd.func30, Tryd.ntmps30
    try go_wp2_with (first | ((with_reducible refine gate_dst (N := 2) rfl ?_); refine box_event ?hg (N := 2) ?hd (cs := #[.int .i64 a0_0, .slice A0_1 l0_1.length c0_1]) (t := 24) ?hr ?_; (case hd => rfl); (case hg => rfl); (case hr => first | (go_simp; done) | (go_simp; rfl)); intro gb101 hg w8 hbox hb; have n0_ := Aside0.mk (below_step (by repeat (first | (with_reducible first | exact HB.out | apply below_alloc | apply pw_below_drewN | apply below_drew1) | exact HB.out)) hb); have n1_ := Aside0.mk (hbox); have n2_ := Aside0.mk ((by rw [hg]; exact (below_size (by repeat (first | (with_reducible first | exact HB.out | apply below_alloc | apply pw_below_drewN | apply below_drew1) | exact HB.out))) : w.heap.size ≤ gb101)); have n3_ := Aside0.mk ((by rw [hg]; exact (below_size (by repeat (first | (with_reducible first | exact HB.out | apply below_alloc | apply pw_below_drewN | apply below_drew1) | exact HB.out))) : w.heap.size ≤ gb101)); clear HB; have HB := n0_; have BK101 := n1_; have GW101 := n2_; have GE101 := n3_; clear n0_ n1_ n2_ n3_; clear hb hbox hg))
    have n0_ := Aside0.mk (blk_drew BK101.out)
    have n1_ := Aside0.mk (below_drew1 HB.out)
    clear BK101
    clear HB
    have BK101 := n0_
    have HB := n1_
    clear n0_ n1_
    refine start_ (n := 9) (S := fun w' => w'.cell? ⟨gb101, 0, none⟩ = some (.int .i64 a0_0) ∧ w'.cell? ⟨gb101, 1, none⟩ = some (.slice A0_1 l0_1.length c0_1)) (ds := []) #[false, false, false, false, false, false, false, false, false] (by kernel_rfl) rfl rfl ⟨(blk_cell BK101.out 0).trans rfl, (blk_cell BK101.out 1).trans rfl⟩ (fun hHeld => ?_); refine with_tabW bitset_Last.tab3 bitset_Last.bits3 (fun HT_ HW_ => ?_)
    generalize w8.drew = w9 at BK101 HB hHeld ⊢
    refine pure_ (i := 2) (N := some 9) (v := ?_) (a' := ?_) #[false, false, true, false, false, false, false, false, false] rfl rfl (any_of HT_.out (by kernel_rfl)) (fun _ _ _ h => h) (Or.inl ⟨by rfl, ?_⟩) ?_ ?_
    rotate_left
    · intro w'
      go_simp
      with_reducible rfl
    rotate_left
    · simp only [Act.put, List.setIfInBounds_toArray, List.set_cons_zero, List.set_cons_succ, i64_w, i32_w]
      rfl
    refine pure_ (i := 3) (N := some 10) (v := ?_) (a' := ?_) #[false, false, true, true, false, false, false, false, false] rfl rfl (any_of HT_.out (by kernel_rfl)) (fun _ _ _ h => h) (Or.inl ⟨by rfl, ?_⟩) ?_ ?_
    rotate_left
    · intro w'
      go_simp
      with_reducible rfl
    rotate_left
    · simp only [Act.put, List.setIfInBounds_toArray, List.set_cons_zero, List.set_cons_succ, i64_w, i32_w]
      rfl
    refine pure_ (i := 4) (N := some 11) (v := ?_) (a' := ?_) #[false, false, true, true, true, false, false, false, false] rfl rfl (any_of HT_.out (by kernel_rfl)) (fun _ _ _ h => h) (Or.inl ⟨by rfl, ?_⟩) ?_ ?_
    rotate_left
    · intro w'
      go_simp
      with_reducible rfl
    rotate_left
    · simp only [Act.put, List.setIfInBounds_toArray, List.set_cons_zero, List.set_cons_succ, i64_w, i32_w]
      rfl
    refine take_ (i := 0) (N := some 7) (v := ?_) (a' := ?_) #[true, false, true, true, true, false, false, false, false] rfl rfl (take_ofW HT_.out HW_.out (by kernel_rfl)) (fun _ _ _ h => h) (Or.inl ⟨by rfl, ?_⟩) hHeld ?_ ?_
    rotate_left
    · rintro w' ⟨s0, s1⟩
      go_simp
      with_reducible rfl
    rotate_left
    · simp only [Act.put, List.setIfInBounds_toArray, List.set_cons_zero, List.set_cons_succ, i64_w, i32_w]
      rfl
    refine take_ (i := 1) (N := some 8) (v := ?_) (a' := ?_) #[true, true, true, true, true, false, false, false, false] rfl rfl (take_ofW HT_.out HW_.out (by kernel_rfl)) (fun _ _ _ h => h) (Or.inl ⟨by rfl, ?_⟩) hHeld ?_ ?_
    rotate_left
    · rintro w' ⟨s0, s1⟩
      go_simp
      with_reducible rfl
    rotate_left
    · simp only [Act.put, List.setIfInBounds_toArray, List.set_cons_zero, List.set_cons_succ, i64_w, i32_w]
      rfl
    refine one_ (i := 5) (N := some 12) #[true, true, true, true, true, true, false, false, false] rfl rfl (one_of HT_.out (by kernel_rfl)) (by decide) (fun K hK => ?_)
    refine goes_ Tryd.func25 (by kernel_rfl) rfl #[.agg #[.int .i64 a0_0, .slice A0_1 l0_1.length c0_1], .int .i64 (wrap64 ((ji5) + 1))] (by rfl) rfl rfl (by (try simp only [List.map_toArray, List.map_cons, List.map_nil]); first | done | (simp only [hji5]; rfl) | rfl | (simp only [List.length_drop, List.length_take]; rfl)) ?_
    with_reducible refine (bitset_Rank.calls k a0_0 _ _ l0_1 (wrap64 ((ji5) + 1)) t102 _ ?side1 ?side2 A6.out).mono ?_
    (case side1 => repeat (first | exact (Kd.C_below HR0_1.out HB.out) | (with_reducible refine Kd.C_alloc ?_ _) | (with_reducible refine Kd.C_drewN ?_ _) | (with_reducible refine Kd.C_drew ?_)))
    (case side2 => exact HC0_1.out)
    rintro e w10 ⟨rfl, hb⟩
    refine ⟨_, rfl, ?_⟩
    have n0_ := Aside0.mk (blk_below (g := gb101) (o := .cells #[.int .i64 a0_0, .slice A0_1 l0_1.length c0_1] 24 (0, 0)) (by (with_reducible repeat (first | refine blk_drewN ?_ _ | refine blk_drew ?_ | refine blk_alloc ?_ _)); exact BK101.out) hb)
    have n1_ := Aside0.mk (below_step (by repeat (first | (with_reducible first | exact HB.out | apply below_alloc | apply pw_below_drewN | apply below_drew1 | refine below_set ?_ GE101.out) | exact HB.out)) hb)
    clear BK101
    clear HB
    have BK101 := n0_
    have HB := n1_
    clear n0_ n1_
    (try clear hb)
    (try clear hb2)
    (try clear hk)
    (try clear hi)
    refine hK.out _ _ ⟨(blk_cell BK101.out 0).trans rfl, (blk_cell BK101.out 1).trans rfl⟩ (fun hHeld => ?_)
    clear hK K
    refine norm_ (a' := ?_) ?_ ?_
    rotate_left
    · show Act.put _ (some 12) _ = _
      simp only [Act.put, List.setIfInBounds_toArray, List.set_cons_zero, List.set_cons_succ, i64_w, i32_w]
      rfl
    refine pure_ (i := 6) (N := some 13) (v := ?_) (a' := ?_) #[true, true, true, true, true, true, true, false, false] rfl rfl (any_of HT_.out (by kernel_rfl)) (fun _ _ _ h => h) (Or.inl ⟨by rfl, ?_⟩) ?_ ?_
    rotate_left
    · intro w'
      go_simp
      with_reducible rfl
    rotate_left
    · simp only [Act.put, List.setIfInBounds_toArray, List.set_cons_zero, List.set_cons_succ, i64_w, i32_w]
      rfl
    refine one_ (i := 7) (N := some 14) #[true, true, true, true, true, true, true, true, false] rfl rfl (one_of HT_.out (by kernel_rfl)) (by decide) (fun K hK => ?_)
    refine goes_ Tryd.func27 (by kernel_rfl) rfl #[.agg #[.int .i64 a0_0, .slice A0_1 l0_1.length c0_1], .int .i64 (wrap64 (t102 - 1))] (by rfl) rfl rfl (by (try simp only [List.map_toArray, List.map_cons, List.map_nil]); first | done | rfl | (simp only [List.length_drop, List.length_take]; rfl)) ?_
    with_reducible refine (bitset_Select.calls k a0_0 _ _ l0_1 (wrap64 (t102 - 1)) t103 _ ?side1 ?side2 ?side3 A7.out).mono ?_
    (case side1 => repeat (first | exact (Kd.C_below HR0_1.out HB.out) | (with_reducible refine Kd.C_alloc ?_ _) | (with_reducible refine Kd.C_drewN ?_ _) | (with_reducible refine Kd.C_drew ?_)))
    (case side2 => exact HC0_1.out)
    (case side3 => first | exact HG.out | exact tz_at HG.out (by repeat (first | (with_reducible first | exact HB.out | apply below_alloc | apply pw_below_drewN | apply below_drew1 | refine below_set ?_ GE101.out) | exact HB.out)))
    rintro e w11 ⟨rfl, hb⟩
    refine ⟨_, rfl, ?_⟩
    have n0_ := Aside0.mk (blk_below (g := gb101) (o := .cells #[.int .i64 a0_0, .slice A0_1 l0_1.length c0_1] 24 (0, 0)) (by (with_reducible repeat (first | refine blk_drewN ?_ _ | refine blk_drew ?_ | refine blk_alloc ?_ _)); exact BK101.out) hb)
    have n1_ := Aside0.mk (below_step (by repeat (first | (with_reducible first | exact HB.out | apply below_alloc | apply pw_below_drewN | apply below_drew1 | refine below_set ?_ GE101.out) | exact HB.out)) hb)
    clear BK101
    clear HB
    have BK101 := n0_
    have HB := n1_
    clear n0_ n1_
    (try clear hb)
    (try clear hb2)
    (try clear hk)
    (try clear hi)
    refine hK.out _ _ ⟨(blk_cell BK101.out 0).trans rfl, (blk_cell BK101.out 1).trans rfl⟩ (fun hHeld => ?_)
    clear hK K
    refine norm_ (a' := ?_) ?_ ?_
    rotate_left
    · show Act.put _ (some 14) _ = _
      simp only [Act.put, List.setIfInBounds_toArray, List.set_cons_zero, List.set_cons_succ, i64_w, i32_w]
      rfl
    refine pure_ (i := 8) (N := some 4) (v := ?_) (a' := ?_) #[true, true, true, true, true, true, true, true, true] rfl rfl (any_of HT_.out (by kernel_rfl)) (fun _ _ _ h => h) (Or.inl ⟨by rfl, ?_⟩) ?_ ?_
    rotate_left
    · intro w'
      go_simp
      with_reducible rfl
    rotate_left
    · simp only [Act.put, List.setIfInBounds_toArray, List.set_cons_zero, List.set_cons_succ, i64_w, i32_w]
      rfl
    refine done_ (done_of HT_.out (by kernel_rfl)) ?_
    try go_wp2
    go_ret
    exact ⟨by first | rfl | (simp [errW_none, errW_some] <;> rfl) | (simp only [← hji5]; first | rfl | (simp [errW_none, errW_some] <;> rfl)) | (simp [*, errW_none, errW_some] <;> rfl), by repeat (first | (with_reducible first | exact HB.out | apply below_alloc | apply pw_below_drewN | apply below_drew1 | refine below_set ?_ GE101.out) | exact HB.out)⟩
end Go.Proofs.YtjmkhdhffmlhiaaDoor.PAll
end
section
namespace Go.Proofs.YtjmkhdhffmlhiaaDoor.PAll
open Go.RowKit Go.Proofs.YtjmkhdhffmlhiaaDoorW.PrintWords Go.Proofs.YtjmkhdhffmlhiaaDoorW.PrintLast Go.Proofs.YtjmkhdhffmlhiaaDoorW.PrintMore
attribute [local go_sem] max2_int min2_int max_two min_two max_three min_three max_four min_four w64_u8 w64_mod256   -- for this text's walks alone
set_option linter.unusedVariables false
set_option linter.unusedSimpArgs false
end Go.Proofs.YtjmkhdhffmlhiaaDoor.PAll
end
section
namespace Go.Proofs.YtjmkhdhffmlhiaaDoor.PAll
open Go.RowKit Go.Proofs.YtjmkhdhffmlhiaaDoorW.PrintWords Go.Proofs.YtjmkhdhffmlhiaaDoorW.PrintLast Go.Proofs.YtjmkhdhffmlhiaaDoorW.PrintMore
attribute [local go_sem] max2_int min2_int max_two min_two max_three min_three max_four min_four w64_u8 w64_mod256   -- for this text's walks alone
set_option linter.unusedVariables false
set_option linter.unusedSimpArgs false
end Go.Proofs.YtjmkhdhffmlhiaaDoor.PAll
end
section
namespace Go.Proofs.YtjmkhdhffmlhiaaDoor.PAll
set_option linter.unusedVariables false
open Go.RowKit Go.Proofs.YtjmkhdhffmlhiaaDoorW.PrintWords Go.Proofs.YtjmkhdhffmlhiaaDoorW.PrintMore
def rk (ws : List Int) (e : Nat) : Nat := (List.range e).countP (hb ws)
theorem rk_succ (ws : List Int) (e : Nat) : rk ws (e + 1) = rk ws e + (if hb ws e = true then 1 else 0) := by
  unfold rk
  rw [List.range_succ, List.countP_append]
  simp [List.countP_cons]
theorem rk_mono (ws : List Int) {d e : Nat} (h : d ≤ e) : rk ws d ≤ rk ws e := by
  induction e with
  | zero => have : d = 0 := by omega
            subst this; exact Nat.le_refl _
  | succ e ih =>
    rcases Nat.lt_or_ge d (e + 1) with h1 | h1
    · have := ih (by omega); rw [rk_succ]; omega
    · have : d = e + 1 := by omega
      subst this; exact Nat.le_refl _
theorem rk_lt (ws : List Int) {d e : Nat} (h : d < e) (hd : hb ws d = true) : rk ws d < rk ws e := by
  have h1 := rk_succ ws d
  rw [if_pos hd] at h1
  have := rk_mono ws (show d + 1 ≤ e from h)
  omega
theorem rk_uniq (ws : List Int) {d e : Nat} (hd : hb ws d = true) (he : hb ws e = true) (h : rk ws d = rk ws e) : d = e := by
  rcases Nat.lt_trichotomy d e with h1 | h1 | h1
  · have := rk_lt ws h1 hd; omega
  · exact h1
  · have := rk_lt ws h1 he; omega
theorem rk_le (ws : List Int) (e : Nat) : rk ws e ≤ e := by
  have := List.countP_le_length (p := hb ws) (l := List.range e)
  rwa [List.length_range] at this
theorem rk_add (ws : List Int) (i r : Nat) (hr : r ≤ 64) : rk ws (64 * i + r) = rk ws (64 * i) + (List.range r).countP (tb (ws.getD i 0)) := by
  unfold rk
  rw [List.range_add, List.countP_append, List.countP_map]
  congr 1
  refine List.countP_congr fun j hj => ?_
  have hj := List.mem_range.1 hj
  simp only [Function.comp]
  unfold hb
  rw [show (64 * i + j) / 64 = i by omega, show (64 * i + j) % 64 = j by omega]
theorem cnt_snoc (l : List Int) (x : Int) : cnt (l ++ [x]) = cnt l + pc x.toNat := by
  unfold cnt
  rw [List.map_append, List.sum_append, List.map_cons, List.map_nil, List.sum_cons, List.sum_nil, Nat.add_zero]
theorem cnt_take (ws : List Int) : ∀ i, i ≤ ws.length → cnt (ws.take i) = rk ws (64 * i)
  | 0, _ => by simp [cnt, rk]
  | i + 1, h => by
    have h1 := cnt_take ws i (by omega)
    have hlt : i < ws.length := by omega
    rw [List.take_succ_eq_append_getElem hlt]
    rw [cnt_snoc, h1, show 64 * (i + 1) = 64 * i + 64 by omega, rk_add ws i 64 (Nat.le_refl _), pc_countP, List.getD_eq_getElem?_getD, List.getElem?_eq_getElem hlt]
    rfl
theorem rk_all {N : Nat} {ws : List Int} (h : MayP (N : Int) ws) : cnt ws = rk ws N := by
  have h1 := cnt_take ws ws.length (Nat.le_refl _)
  rw [List.take_length] at h1
  rw [h1]
  have h2 : N ≤ 64 * ws.length := by have := h.2.2.1; rw [Int.toNat_natCast] at this; omega
  have key : ∀ d, rk ws (N + d) = rk ws N := by
    intro d
    induction d with
    | zero => rfl
    | succ d ih =>
      rw [← Nat.add_assoc, rk_succ, ih, h.2.2.2 (N + d) (by rw [Int.toNat_natCast]; omega)]
      simp
  have := key (64 * ws.length - N)
  rwa [Nat.add_sub_cancel' h2] at this
theorem pc_low {x : Int} (hx : Wd x) {r : Nat} (hr : r < 64) : bits_OnesCount64.f (Go.bits .and .u64 x (IntKind.u64.wrap ((shl .u64 1 (r : Int)) - 1))) = some (((List.range r).countP (tb x) : Nat) : Int) := by
  have h1 := (one_shl (e := (r : Int)) (by omega) (by omega)).1
  have hp : (2 : Nat) ^ r < 2 ^ 64 := Nat.pow_lt_pow_right (by omega) hr
  have hp0 : 0 < (2 : Nat) ^ r := Nat.two_pow_pos r
  have h2 : IntKind.u64.wrap ((shl .u64 1 (r : Int)) - 1) = ((2 ^ r - 1 : Nat) : Int) := by
    rw [h1, Int.toNat_natCast, show (((2 ^ r : Nat) : Int) - 1) = ((2 ^ r - 1 : Nat) : Int) by omega]
    exact wrap_nat _ (by omega)
  have hm : Wd ((2 ^ r - 1 : Nat) : Int) := Wd.of (by omega)
  rw [h2, ones_eq (and_eq _ _).2, pc_countP]
  congr 2
  have h3 : ∀ j, tb (Go.bits .and .u64 x ((2 ^ r - 1 : Nat) : Int)) j = (tb x j && decide (j < r)) := fun j => by
    rw [tb_and hx hm]
    congr 1
    unfold tb
    rw [Int.toNat_natCast, Nat.testBit_two_pow_sub_one]
  rw [show (64 : Nat) = r + (64 - r) by omega, List.range_add, List.countP_append, List.countP_map]
  have h4 : (List.range r).countP (tb (Go.bits .and .u64 x ((2 ^ r - 1 : Nat) : Int))) = (List.range r).countP (tb x) := by
    refine List.countP_congr fun j hj => ?_
    rw [h3, decide_eq_true (List.mem_range.1 hj), Bool.and_true]
  have h5 : (List.range (64 - r)).countP (tb (Go.bits .and .u64 x ((2 ^ r - 1 : Nat) : Int)) ∘ fun x => r + x) = 0 := by
    rw [List.countP_eq_zero]
    intro j _
    simp only [Function.comp]
    rw [h3, decide_eq_false (by omega), Bool.and_false]
    simp
  rw [h4, h5, Nat.add_zero]
theorem Rank_l0 (N : Nat) (hN : N ≤ 4096) (ws : List Int) (hw : Wds ws) (hl : ws.length = (N + 63) / 64) (c : Nat) (hc : c ≤ N) : ∀ d i s : Nat, i + d = c / 64 → s = cnt (ws.take i) →
    Ev (fun k => bitset_Rank.l0 k (c : Int) (s : Int) (ws.take (c / 64)) ((ws.take (c / 64)).length : Int) (i : Int) (N : Int) ws) (rk ws c : Int) := by
  have hq : c / 64 ≤ ws.length := by omega
  have hlen : (ws.take (c / 64)).length = c / 64 := by rw [List.length_take]; omega
  intro d
  induction d with
  | zero =>
    intro i s hi hs
    have hi' : i = c / 64 := by omega
    subst hi'
    rw [cnt_take ws _ hq] at hs
    by_cases hr : c % 64 = 0
    · refine Ev.step (f := fun _ => some (rk ws c : Int)) (fun k => ?_) (Ev.now _)
      rw [bitset_Rank.l0]
      rw [hlen, if_neg (by omega), if_pos (by rw [tmod_nat]; omega), hs, show 64 * (c / 64) = c by omega]
    · have hlt : c / 64 < ws.length := by omega
      have hwx := hw _ (List.getElem_mem hlt)
      have h4 : rd ws ((c / 64 : Nat) : Int) = ws[c / 64] := by rw [rd_nat, List.getD_eq_getElem?_getD, List.getElem?_eq_getElem hlt]; rfl
      have h5 := rk_add ws (c / 64) (c % 64) (by omega)
      rw [show 64 * (c / 64) + c % 64 = c by omega, List.getD_eq_getElem?_getD, List.getElem?_eq_getElem hlt] at h5
      have h6 := rk_le ws c
      refine Ev.step (f := fun _ => some (rk ws c : Int)) (fun k => ?_) (Ev.now _)
      rw [bitset_Rank.l0]
      rw [hlen, if_neg (by omega), tmod_nat, tdiv_nat, w64_nat (n := ((c / 64 : Nat) : Int)) (by omega) (by omega), if_neg (by omega), if_pos (by omega), if_pos (by omega), if_pos (by omega), h4, pc_low hwx (by omega), Option.bind_some]
      rw [h5] at h6 ⊢
      rw [hs]
      congr 1
      change wrap64 (((rk ws (64 * (c / 64)) : Nat) : Int) + (((List.range (c % 64)).countP (tb ws[c / 64]) : Nat) : Int)) = ((rk ws (64 * (c / 64)) + (List.range (c % 64)).countP (tb ws[c / 64]) : Nat) : Int)
      change rk ws (64 * (c / 64)) + (List.range (c % 64)).countP (tb ws[c / 64]) ≤ c at h6
      rw [w64_nat (by omega) (by omega)]; omega
  | succ d ih =>
    intro i s hi hs
    have hlt : i < ws.length := by omega
    have hwx := hw _ (List.getElem_mem hlt)
    have hlt2 : i < (ws.take (c / 64)).length := by rw [hlen]; omega
    have h4 : rd (ws.take (c / 64)) (i : Int) = ws[i] := by rw [rd_nat, List.getD_eq_getElem?_getD, List.getElem?_eq_getElem hlt2, List.getElem_take]; rfl
    obtain ⟨z, h6, h5, h8⟩ : ∃ z : Nat, z ≤ 64 ∧ bits_OnesCount64.f ws[i] = some (z : Int) ∧ s + z = cnt (ws.take (i + 1)) := ⟨_, pc_le (ws[i]).toNat, ones_eq hwx, by rw [List.take_succ_eq_append_getElem hlt, cnt_snoc, hs]⟩
    have h7 := cnt_le (ws.take i)
    rw [List.length_take] at h7
    refine Ev.step (fun k => ?_) (ih (i + 1) (s + z) (by omega) h8)
    conv => lhs; rw [bitset_Rank.l0]
    rw [hlen, if_pos (by omega), if_pos (by omega), if_pos (by omega), h4, h5, Option.bind_some, show wrap64 ((i : Int) + 1) = ((i + 1 : Nat) : Int) by unfold wrap64; omega, ← Int.natCast_add, w64_nat (by omega) (by omega)]
def cl (N : Nat) (e : Int) : Nat := min e.toNat N
theorem Rank_eq {N : Nat} {ws : List Int} (hw : Wds ws) (h : MayP (N : Int) ws) (e : Int) : Ev (fun k => bitset_Rank.f k (N : Int) ws e) (rk ws (cl N e) : Int) := by
  have hN : N ≤ 4096 := by have := h.2.1; omega
  have hlen : ws.length = (N + 63) / 64 := by have := h.2.2.1; rwa [Int.toNat_natCast] at this
  have hc : cl N e ≤ N := Nat.min_le_right _ _
  have hm : mn (mx e 0) (N : Int) = ((cl N e : Nat) : Int) := by unfold mn mx cl; split <;> split <;> omega
  refine Ev.congr (fun k => ?_) (Rank_l0 N hN ws hw hlen (cl N e) hc (cl N e / 64) 0 0 (by omega) (by simp [cnt]))
  unfold bitset_Rank.f
  rw [May_eq _ ws hw (by omega), may_true.2 h, Option.bind_some, if_pos rfl, hm, tdiv_nat, w64_nat (n := ((cl N e / 64 : Nat) : Int)) (by omega) (by omega), if_pos (by omega), if_pos (by omega), Int.toNat_natCast]
  rfl
def SelSays (ws : List Int) (k : Int) (r : Int) : Prop := ((k < 0 ∨ (cnt ws : Int) ≤ k) ∧ r = -1) ∨ (∃ e : Nat, hb ws e = true ∧ (rk ws e : Int) = k ∧ r = (e : Int))
theorem low_off {x : Nat} (h0 : 0 < x) (hx : x < 2 ^ 64) : Lib.ctz 64 x < 64 ∧ x.testBit (Lib.ctz 64 x) = true ∧ (∀ j, j < Lib.ctz 64 x → x.testBit j = false) ∧ (∀ j, (x &&& (x - 1)).testBit j = (x.testBit j && !decide (j = Lib.ctz 64 x))) := by
  obtain ⟨m, h1, h2⟩ := Lib.ctzFrom_spec 64 x h0 hx
  have hc : Lib.ctz 64 x = Lib.ctzFrom 64 x := by unfold Lib.ctz; rw [if_neg (by omega)]
  rw [hc]
  generalize Lib.ctzFrom 64 x = c at h1 h2
  have hb1 : ∀ j, x.testBit j = (decide (j ≥ c) && (2 * m + 1).testBit (j - c)) := fun j => by rw [h1, Nat.testBit_two_pow_mul]
  have hp0 : 0 < (2 : Nat) ^ c := Nat.two_pow_pos c
  have hand : x &&& (x - 1) = 2 ^ c * (2 * m) := by
    have e1 : x - 1 = 2 ^ c * (2 * m) + (2 ^ c - 1) := by rw [h1, Nat.mul_add]; omega
    have h3 : (2 ^ c * (2 * m + 1)) &&& (2 ^ c * (2 * m) + (2 ^ c - 1)) = 2 ^ c * ((2 * m + 1) &&& (2 * m)) := by
      have h := and_split c 0 (2 ^ c - 1) (2 * m + 1) (2 * m) hp0 (by omega)
      rw [Nat.zero_and] at h
      simpa only [Nat.add_zero] using h
    rw [e1, h1, h3]
    congr 1
    apply Nat.eq_of_testBit_eq
    intro j
    rw [Nat.testBit_and]
    cases j with
    | zero => simp [Nat.testBit_zero]
    | succ j => rw [Nat.testBit_succ, Nat.testBit_succ, show (2 * m + 1) / 2 = m by omega, show 2 * m / 2 = m by omega, Bool.and_self]
  refine ⟨h2, ?_, fun j hj => ?_, fun j => ?_⟩
  · rw [hb1, Nat.sub_self]; simp [Nat.testBit_zero]
  · rw [hb1, decide_eq_false (by omega), Bool.false_and]
  · rw [hand, Nat.testBit_two_pow_mul, hb1]
    by_cases hj : j = c
    · subst hj
      simp [Nat.testBit_zero]
    · rw [decide_eq_false hj, Bool.not_false, Bool.and_true]
      by_cases hge : j ≥ c
      · rw [decide_eq_true hge, Bool.true_and, Bool.true_and]
        obtain ⟨t, rfl⟩ : ∃ t, j = c + (t + 1) := ⟨j - c - 1, by omega⟩
        rw [show c + (t + 1) - c = t + 1 by omega, Nat.testBit_succ, Nat.testBit_succ, show (2 * m + 1) / 2 = m by omega, show 2 * m / 2 = m by omega]
      · rw [decide_eq_false hge, Bool.false_and, Bool.false_and]
theorem Select_l1 (i : Nat) (hi : i ≤ 64) : ∀ (k : Nat) (x : Int), Wd x → k < pc x.toNat → ∃ e : Nat, e < 64 ∧ tb x e = true ∧ (List.range e).countP (tb x) = k ∧ Ev (fun f => bitset_Select.l1 f (k : Int) (i : Int) x) ((64 * i + e : Nat) : Int) := by
  intro k
  induction k with
  | zero =>
    intro x hx hk
    have hn := hx.nat
    have h0 : 0 < x.toNat := by
      rcases Nat.eq_zero_or_pos x.toNat with h | h
      · have := (pc_zero hx).2 (fun j => by unfold tb; rw [h]; simp)
        omega
      · exact h
    obtain ⟨c1, c2, c3, _⟩ := low_off h0 hn.1
    refine ⟨Lib.ctz 64 x.toNat, c1, c2, ?_, ?_⟩
    · rw [List.countP_eq_zero]
      intro j hj
      have := c3 j (List.mem_range.1 hj)
      unfold tb
      rw [this]; simp
    · refine Ev.step (f := fun _ => some ((64 * i + Lib.ctz 64 x.toNat : Nat) : Int)) (fun f => ?_) (Ev.now _)
      rw [bitset_Select.l1]
      rw [if_neg (by omega)]
      unfold bits_TrailingZeros64.f
      rw [if_pos (by unfold Wd at hx; exact hx), Option.bind_some, w64_nat (n := (i : Int) * 64) (by omega) (by omega), w64_nat (by omega) (by omega)]
      congr 1
      omega
  | succ k ih =>
    intro x hx hk
    have hn := hx.nat
    have h0 : 0 < x.toNat := by
      rcases Nat.eq_zero_or_pos x.toNat with h | h
      · have := (pc_zero hx).2 (fun j => by unfold tb; rw [h]; simp)
        omega
      · exact h
    obtain ⟨c1, c2, c3, c4⟩ := low_off h0 hn.1
    have hx1 : IntKind.u64.wrap (x - 1) = ((x.toNat - 1 : Nat) : Int) := by rw [show x - 1 = ((x.toNat - 1 : Nat) : Int) by omega]; exact wrap_nat _ (by omega)
    have hand : Go.bits .and .u64 x (IntKind.u64.wrap (x - 1)) = ((x.toNat &&& (x.toNat - 1) : Nat) : Int) := by
      rw [hx1]
      conv => lhs; rw [← hn.2]
      exact and_nat _ _ hn.1 (by omega)
    have hlt : x.toNat &&& (x.toNat - 1) < 2 ^ 64 := Nat.and_lt_two_pow _ (by omega)
    have hy : Wd ((x.toNat &&& (x.toNat - 1) : Nat) : Int) := Wd.of hlt
    have htb : ∀ j, tb ((x.toNat &&& (x.toNat - 1) : Nat) : Int) j = (tb x j && !decide (j = Lib.ctz 64 x.toNat)) := fun j => by
      unfold tb; rw [Int.toNat_natCast]; exact c4 j
    generalize Lib.ctz 64 x.toNat = c at c1 c2 c3 htb
    -- what is below e, without the lowest bit
    have hcount : ∀ e, c < e → (List.range e).countP (tb x) = (List.range e).countP (tb ((x.toNat &&& (x.toNat - 1) : Nat) : Int)) + 1 := by
      intro e he
      obtain ⟨d, rfl⟩ : ∃ d, e = (c + 1) + d := ⟨e - (c + 1), by omega⟩
      have low : ∀ y : Int, (List.range (c + 1 + d)).countP (tb y) = (List.range c).countP (tb y) + (if tb y c = true then 1 else 0) + (List.range d).countP (tb y ∘ fun t => c + 1 + t) := fun y => by
        rw [List.range_add, List.countP_append, List.range_succ, List.countP_append, List.countP_map]
        simp [List.countP_cons]
      rw [low, low]
      have e1 : (List.range c).countP (tb ((x.toNat &&& (x.toNat - 1) : Nat) : Int)) = (List.range c).countP (tb x) := by
        refine List.countP_congr fun j hj => ?_
        rw [htb, decide_eq_false (by have := List.mem_range.1 hj; omega)]; simp
      have e2 : (List.range d).countP (tb ((x.toNat &&& (x.toNat - 1) : Nat) : Int) ∘ fun t => c + 1 + t) = (List.range d).countP (tb x ∘ fun t => c + 1 + t) := by
        refine List.countP_congr fun j hj => ?_
        simp only [Function.comp]
        rw [htb, decide_eq_false (by omega)]; simp
      have e3 : tb ((x.toNat &&& (x.toNat - 1) : Nat) : Int) c = false := by rw [htb]; simp
      have e4 : tb x c = true := c2
      rw [e1, e2, e3, e4, if_pos rfl, if_neg (by simp)]
      omega
    have hpc : pc x.toNat = pc (x.toNat &&& (x.toNat - 1)) + 1 := by
      have := hcount 64 c1
      have h9 := pc_countP ((x.toNat &&& (x.toNat - 1) : Nat) : Int)
      rw [Int.toNat_natCast] at h9
      rw [pc_countP, h9]; exact this
    obtain ⟨e, e1, e2, e3, e4⟩ := ih ((x.toNat &&& (x.toNat - 1) : Nat) : Int) hy (by rw [Int.toNat_natCast]; omega)
    rw [htb, Bool.and_eq_true] at e2
    have hne : e ≠ c := by have := e2.2; simpa using this
    have hce : c < e := by
      rcases Nat.lt_trichotomy c e with h | h | h
      · exact h
      · exact absurd h.symm hne
      · have := c3 e h
        have h2 := e2.1
        unfold tb at h2
        rw [this] at h2; cases h2
    refine ⟨e, e1, e2.1, by rw [hcount e hce, e3], Ev.step (fun f => ?_) e4⟩
    conv => lhs; rw [bitset_Select.l1]
    rw [if_pos (by omega), hand, show wrap64 (((k + 1 : Nat) : Int) - 1) = (k : Int) by unfold wrap64; have := pc_le x.toNat; omega]
theorem Select_l0 (ws : List Int) (hw : Wds ws) (hl : ws.length ≤ 64) (k : Nat) (hk : k ≤ 9223372036854775807) : ∀ d i q : Nat, i + d = ws.length → cnt (ws.take i) + q = k → ∃ r, SelSays ws (k : Int) r ∧ Ev (fun f => bitset_Select.l0 f (q : Int) ws (ws.length : Int) (i : Int)) r := by
  intro d
  induction d with
  | zero =>
    intro i q hi hq
    rw [List.take_of_length_le (by omega)] at hq
    refine ⟨-1, .inl ⟨.inr (by omega), rfl⟩, Ev.step (f := fun _ => some (-1)) (fun f => ?_) (Ev.now _)⟩
    rw [bitset_Select.l0]
    rw [if_neg (by omega)]
  | succ d ih =>
    intro i q hi hq
    have hlt : i < ws.length := by omega
    have hwx := hw _ (List.getElem_mem hlt)
    have h4 : rd ws (i : Int) = ws[i] := by rw [rd_nat, List.getD_eq_getElem?_getD, List.getElem?_eq_getElem hlt]; rfl
    obtain ⟨z, hz, h5, h8⟩ : ∃ z : Nat, z = pc (ws[i]).toNat ∧ bits_OnesCount64.f ws[i] = some (z : Int) ∧ cnt (ws.take i) + z = cnt (ws.take (i + 1)) := by
      have a1 := ones_eq hwx
      have a2 : cnt (ws.take (i + 1)) = cnt (ws.take i) + pc (ws[i]).toNat := by rw [List.take_succ_eq_append_getElem hlt, cnt_snoc]
      generalize pc (ws[i]).toNat = z at a1 a2
      exact ⟨z, rfl, a1, a2.symm⟩
    by_cases hge : z ≤ q
    · obtain ⟨r, h1, h2⟩ := ih (i + 1) (q - z) (by omega) (by omega)
      refine ⟨r, h1, Ev.step (fun f => ?_) h2⟩
      conv => lhs; rw [bitset_Select.l0]
      rw [if_pos (by omega), if_pos (by omega), if_pos (by omega), h4, h5, Option.bind_some, if_pos (by omega), show wrap64 ((i : Int) + 1) = ((i + 1 : Nat) : Int) by unfold wrap64; omega, show wrap64 ((q : Int) - (z : Int)) = ((q - z : Nat) : Int) by unfold wrap64; omega]
    · obtain ⟨e, e1, e2, e3, e4⟩ := Select_l1 i (by omega) q ws[i] hwx (by rw [← hz]; omega)
      have h9 := rk_add ws i e (by omega)
      rw [List.getD_eq_getElem?_getD, List.getElem?_eq_getElem hlt, ← cnt_take ws i (by omega)] at h9
      change rk ws (64 * i + e) = cnt (ws.take i) + (List.range e).countP (tb ws[i]) at h9
      refine ⟨((64 * i + e : Nat) : Int), .inr ⟨64 * i + e, ?_, by rw [h9, e3]; omega, rfl⟩, Ev.step (fun f => ?_) e4⟩
      · unfold hb
        rw [show (64 * i + e) / 64 = i by omega, show (64 * i + e) % 64 = e by omega, List.getD_eq_getElem?_getD, List.getElem?_eq_getElem hlt]
        exact e2
      · conv => lhs; rw [bitset_Select.l0]
        rw [if_pos (by omega), if_pos (by omega), if_pos (by omega), h4, h5, Option.bind_some, if_neg (by omega)]
theorem Select_eq {N : Nat} {ws : List Int} (hw : Wds ws) (h : MayP (N : Int) ws) (k : Int) (hk : k ≤ 9223372036854775807) : ∃ r, SelSays ws k r ∧ Ev (fun f => bitset_Select.f f (N : Int) ws k) r := by
  have hlen : ws.length ≤ 64 := by have h1 := h.2.1; have h2 := h.2.2.1; omega
  by_cases h0 : k < 0
  · refine ⟨-1, .inl ⟨.inl h0, rfl⟩, Ev.congr (f := fun f => bitset_Select.j0 f k true (N : Int) ws) (fun f => ?_) (Ev.step (f := fun _ => some (-1)) (fun f => ?_) (Ev.now _))⟩
    · unfold bitset_Select.f
      rw [May_eq _ ws hw (by omega), may_true.2 h, Option.bind_some, if_pos rfl, decide_eq_true h0]
    · rw [bitset_Select.j0]
      rw [if_pos rfl]
  · obtain ⟨n, rfl⟩ := Int.eq_ofNat_of_zero_le (show 0 ≤ k by omega)
    obtain ⟨r, h1, h2⟩ := Select_l0 ws hw hlen n (by omega) ws.length 0 n (by omega) (by simp [cnt])
    refine ⟨r, h1, Ev.congr (f := fun f => bitset_Select.j0 f (n : Int) false (N : Int) ws) (fun f => ?_) (Ev.step (f := fun f => bitset_Select.l0 f (n : Int) ws (ws.length : Int) ((0 : Nat) : Int)) (fun f => ?_) h2)⟩
    · unfold bitset_Select.f
      rw [May_eq _ ws hw (by omega), may_true.2 h, Option.bind_some, if_pos rfl, decide_eq_false h0]
    · rw [bitset_Select.j0]
      rw [if_neg (by simp)]; rfl
end Go.Proofs.YtjmkhdhffmlhiaaDoor.PAll
end
section
namespace Go.Proofs.YtjmkhdhffmlhiaaDoor.PAll
open Go.RowKit Go.Proofs.YtjmkhdhffmlhiaaDoorW.PrintWords Go.Proofs.YtjmkhdhffmlhiaaDoorW.PrintLast Go.Proofs.YtjmkhdhffmlhiaaDoorW.PrintMore
attribute [local go_sem] max2_int min2_int max_two min_two max_three min_three max_four min_four w64_u8 w64_mod256   -- for this text's walks alone
set_option linter.unusedVariables false
set_option linter.unusedSimpArgs false
def sloperef3_Rank.l0 : Nat → Int → List Int → Int → Int → Option (Int)
  | 0, _, _, _, _ => none
  | k + 1, x1, x5, x6, x7 => if x7 < (x5.length : Int) then (if 0 ≤ x7 then (if (rd x5 x7) < x1 then (sloperef3_Rank.l0 k x1 x5 (wrap64 (x6 + 1)) (wrap64 (x7 + 1))) else (sloperef3_Rank.l0 k x1 x5 x6 (wrap64 (x7 + 1)))) else (none)) else (some x6)
def sloperef3_Rank.f (k : Nat) (a0_0 : Int) (l0_1 : List Int) (a1 : Int) : Option (Int) := (sloperef3_Elements.f k a0_0 l0_1).bind fun t102 => (sloperef3_Rank.l0 k a1 t102 0 0)
set_option maxHeartbeats 8000000 in
set_option maxRecDepth 100000 in
theorem sloperef3_Rank.calls (k : Nat) (a0_0 : Int) (A0_1 : Option Addr) (c0_1 : Nat) (l0_1 : List Int) (a1 : Int) (r : Int) (w : World) (hr0_1 : Kd.C (Kd.int .u64) w A0_1 l0_1.length l0_1) (hc0_1 : l0_1.length ≤ c0_1) (h : sloperef3_Rank.f k a0_0 l0_1 a1 = some r) :
    Calls Tryd.prog 26 #[.agg #[.int .i64 a0_0, .slice A0_1 l0_1.length c0_1], .int .i64 a1] w fun e w' => e = .returned (.int .i64 r) ∧ Below w.heap.size w w' := by
  have hu24 := Tryd.underlying24
  have HR0_1 := Aside0.mk hr0_1
  have HC0_1 := Aside0.mk hc0_1
  clear hr0_1 hc0_1
  have HB := Aside0.mk (Below.refl w.heap.size w)
  have H : ((sloperef3_Elements.f k a0_0 l0_1).bind fun t102 => (sloperef3_Rank.l0 k a1 t102 0 0)) = some r := h
  clear h
  replace H := Option.bind_eq_some_iff.mp H
  obtain ⟨t102, A30, H⟩ := H
  replace H : (sloperef3_Rank.l0 k a1 t102 0 0) = some r := H
  have A3 := Aside0.mk A30
  clear A30
  have H' := Aside0.mk H
  clear H
  go_enter Tryd.func26, Tryd.ntmps26
  go_wp2_with (first | ((with_reducible refine gate_dst (N := 2) rfl ?_); refine box_event ?hg (N := 2) ?hd (cs := #[.int .i64 a0_0, .slice A0_1 l0_1.length c0_1]) (t := 24) ?hr ?_; (case hd => rfl); (case hg => rfl); (case hr => first | (go_simp; done) | (go_simp; rfl)); intro gb101 hg w4 hbox hb; have n0_ := Aside0.mk (below_step (by repeat (first | (with_reducible first | exact HB.out | apply below_alloc | apply pw_below_drewN | apply below_drew1) | exact HB.out)) hb); have n1_ := Aside0.mk (hbox); have n2_ := Aside0.mk ((by rw [hg]; exact (below_size (by repeat (first | (with_reducible first | exact HB.out | apply below_alloc | apply pw_below_drewN | apply below_drew1) | exact HB.out))) : w.heap.size ≤ gb101)); have n3_ := Aside0.mk ((by rw [hg]; exact (below_size (by repeat (first | (with_reducible first | exact HB.out | apply below_alloc | apply pw_below_drewN | apply below_drew1) | exact HB.out))) : w.heap.size ≤ gb101)); clear HB; have HB := n0_; have BK101 := n1_; have GW101 := n2_; have GE101 := n3_; clear n0_ n1_ n2_ n3_; clear hb hbox hg; have hcz5_0 : w4.cell? ⟨gb101, 0, none⟩ = some (.int .i64 a0_0) := (blk_cell BK101.out 0).trans rfl; have hcz5_1 : w4.cell? ⟨gb101, 1, none⟩ = some (.slice A0_1 l0_1.length c0_1) := (blk_cell BK101.out 1).trans rfl; have hfz5_0 := blk_frozen BK101.out 0; have hfz5_1 := blk_frozen BK101.out 1) | ((with_reducible refine gate_callee (f := 35) rfl ?_); refine goesL_ (some 9) rfl rfl Tryd.func35 (by kernel_rfl) rfl #[.agg #[.int .i64 a0_0, .slice A0_1 l0_1.length c0_1]] rfl (by (try simp only [List.map_toArray, List.map_cons, List.map_nil]); first | done | rfl | (simp only [List.length_drop, List.length_take]; rfl)) ?_; (with_reducible refine (sloperef3_Elements.calls k a0_0 _ _ l0_1 t102 _ ?side1 ?side2 A3.out).mono ?_); (case side1 => repeat (first | exact (Kd.C_below HR0_1.out HB.out) | (with_reducible refine Kd.C_alloc ?_ _) | (with_reducible refine Kd.C_drewN ?_ _) | (with_reducible refine Kd.C_drew ?_))); (case side2 => exact HC0_1.out); rintro e w6 ⟨v103, rfl, ho0, hb⟩; refine ⟨_, rfl, ?_⟩; have n0_ := Aside0.mk (Kd.R_lower ho0 (below_size (by repeat (first | (with_reducible first | exact HB.out | apply below_alloc | apply pw_below_drewN | apply below_drew1 | refine below_set ?_ GE101.out) | exact HB.out)))); have n1_ := Aside0.mk (blk_below (g := gb101) (o := .cells #[.int .i64 a0_0, .slice A0_1 l0_1.length c0_1] 24 (0, 0)) (by (with_reducible repeat (first | refine blk_drewN ?_ _ | refine blk_drew ?_ | refine blk_alloc ?_ _)); exact BK101.out) hb); have n2_ := Aside0.mk (below_step (by repeat (first | (with_reducible first | exact HB.out | apply below_alloc | apply pw_below_drewN | apply below_drew1 | refine below_set ?_ GE101.out) | exact HB.out)) hb); clear BK101; clear HB; have HO104 := n0_; have BK101 := n1_; have HB := n2_; clear n0_ n1_ n2_; (try clear hb); (try clear hb2); (try clear hk); (try clear hi); (try clear ho0)))
  go_loopg [6, 7] k (fun kq v6 v7 w' => ∃ (x6_1 : Int) (x7_1 : Int), v6 = .int .i64 x6_1 ∧ v7 = .int .i64 x7_1 ∧ Aside0 (sloperef3_Rank.l0 kq a1 t102 x6_1 x7_1 = some r) ∧ Aside0 (kq ≤ k) ∧ Aside0 (Kd.R (Kd.int .i64) 3 w' w.heap.size (fun _ => True) v103 t102) ∧ Aside0 (w'.heap[gb101]? = some (.cells #[.int .i64 a0_0, (.slice A0_1 l0_1.length c0_1)] 24 (0, 0))) ∧ Aside0 (Below w.heap.size w w'))
  case atStart => exact ⟨(0), (0), (by first | rfl | (simp; done) | (simp [*]; done)), (by first | rfl | (simp; done) | (simp [*]; done)), H', ⟨Nat.le_refl _⟩, ⟨by (with_reducible repeat (first | apply Kd.R_alloc | apply Kd.R_drewN | apply Kd.R_drew)); exact HO104.out⟩, ⟨by (with_reducible repeat (first | refine blk_drewN ?_ _ | refine blk_drew ?_ | refine blk_alloc ?_ _)); exact BK101.out⟩, ⟨by repeat (first | (with_reducible first | exact HB.out | apply below_alloc | apply pw_below_drewN | apply below_drew1 | refine below_set ?_ GE101.out) | exact HB.out)⟩⟩
  case round =>
    clear H'
    try clear c2
    try clear p2
    try clear c3
    try clear hcz5_0
    try clear hcz5_1
    try clear hfz5_0
    try clear hfz5_1
    obtain ⟨x6_1, x7_1, rfl, rfl, HA, HK1, HO_5, BK101, HB⟩ := hrel
    cases gk with
    | zero => exact absurd HA.out (by simp [sloperef3_Rank.l0])
    | succ k1 =>
      have H := HA.out
      clear HA
      simp only [sloperef3_Rank.l0] at H
      by_cases c7 : x7_1 < (t102.length : Int)
      · rw [if_pos c7] at H
        have c7b0 : decide (x7_1 < (t102.length : Int)) = true := decide_eq_true c7
        clear c7
        by_cases c8 : 0 ≤ x7_1
        · rw [if_pos c8] at H
          have c8b0 : decide (0 ≤ x7_1) = true := decide_eq_true c8
          clear c8
          by_cases c9 : (rd t102 x7_1) < a1
          · rw [if_pos c9] at H
            have c9b0 : decide ((rd t102 x7_1) < a1) = true := decide_eq_true c9
            clear c9
            have H' := Aside0.mk H
            clear H
            obtain ⟨Ao10, co10, eo10⟩ := Kd.R_slice HO_5.out
            subst eo10
            have p105 : 0 ≤ (x7_1 : Int) := of_decide_eq_true (by first | (with_reducible assumption) | assumption)
            have q105 : x7_1 < (t102.length : Int) := of_decide_eq_true (by first | (with_reducible assumption) | assumption)
            obtain ⟨ad105, e105, hx105_0⟩ := Kd.at_int (Kd.R_reads' HO_5.out).2.2 x7_1 p105 q105
            cases e105
            replace p105 := eq_true p105
            replace q105 := eq_true q105
            go_wp2
            go_roundg k1
            case measure => have := HK1.out; omega
            case rel => exact ⟨(wrap64 (x6_1 + 1)), (wrap64 (x7_1 + 1)), (by first | rfl | (simp; done) | (simp [*]; done)), (by first | rfl | (simp; done) | (simp [*]; done)), H', ⟨by have := HK1.out; omega⟩, ⟨by (with_reducible repeat (first | apply Kd.R_alloc | apply Kd.R_drewN | apply Kd.R_drew)); exact HO_5.out⟩, ⟨by (with_reducible repeat (first | refine blk_drewN ?_ _ | refine blk_drew ?_ | refine blk_alloc ?_ _)); exact BK101.out⟩, ⟨by repeat (first | (with_reducible first | exact HB.out | apply below_alloc | apply pw_below_drewN | apply below_drew1 | refine below_set ?_ GE101.out) | exact HB.out)⟩⟩
          · rw [if_neg c9] at H
            have c9b0 : decide ((rd t102 x7_1) < a1) = false := decide_eq_false c9
            clear c9
            have H' := Aside0.mk H
            clear H
            obtain ⟨Ao11, co11, eo11⟩ := Kd.R_slice HO_5.out
            subst eo11
            have p105 : 0 ≤ (x7_1 : Int) := of_decide_eq_true (by first | (with_reducible assumption) | assumption)
            have q105 : x7_1 < (t102.length : Int) := of_decide_eq_true (by first | (with_reducible assumption) | assumption)
            obtain ⟨ad105, e105, hx105_0⟩ := Kd.at_int (Kd.R_reads' HO_5.out).2.2 x7_1 p105 q105
            cases e105
            replace p105 := eq_true p105
            replace q105 := eq_true q105
            go_wp2
            go_roundg k1
            case measure => have := HK1.out; omega
            case rel => exact ⟨(x6_1), (wrap64 (x7_1 + 1)), (by first | rfl | (simp; done) | (simp [*]; done)), (by first | rfl | (simp; done) | (simp [*]; done)), H', ⟨by have := HK1.out; omega⟩, ⟨by (with_reducible repeat (first | apply Kd.R_alloc | apply Kd.R_drewN | apply Kd.R_drew)); exact HO_5.out⟩, ⟨by (with_reducible repeat (first | refine blk_drewN ?_ _ | refine blk_drew ?_ | refine blk_alloc ?_ _)); exact BK101.out⟩, ⟨by repeat (first | (with_reducible first | exact HB.out | apply below_alloc | apply pw_below_drewN | apply below_drew1 | refine below_set ?_ GE101.out) | exact HB.out)⟩⟩
        · rw [if_neg c8] at H
          exact absurd H (by simp)
      · rw [if_neg c7] at H
        have c7b0 : decide (x7_1 < (t102.length : Int)) = false := decide_eq_false c7
        clear c7
        obtain rfl := Option.some.inj H
        obtain ⟨Ao12, co12, eo12⟩ := Kd.R_slice HO_5.out
        subst eo12
        go_wp2
        go_ret
        exact ⟨by first | rfl | (simp [errW_none, errW_some] <;> rfl) | (simp [*, errW_none, errW_some] <;> rfl), by repeat (first | (with_reducible first | exact HB.out | apply below_alloc | apply pw_below_drewN | apply below_drew1 | refine below_set ?_ GE101.out) | exact HB.out)⟩
end Go.Proofs.YtjmkhdhffmlhiaaDoor.PAll
end
section
namespace Go.Proofs.YtjmkhdhffmlhiaaDoor.PAll
open Go.RowKit Go.Proofs.YtjmkhdhffmlhiaaDoorW.PrintWords Go.Proofs.YtjmkhdhffmlhiaaDoorW.PrintLast Go.Proofs.YtjmkhdhffmlhiaaDoorW.PrintMore
attribute [local go_sem] max2_int min2_int max_two min_two max_three min_three max_four min_four w64_u8 w64_mod256   -- for this text's walks alone
set_option linter.unusedVariables false
set_option linter.unusedSimpArgs false
def sloperef3_Select.f (k : Nat) (a0_0 : Int) (l0_1 : List Int) (a1 : Int) : Option (Int) := (sloperef3_Elements.f k a0_0 l0_1).bind fun t102 => (if a1 < 0 then (some (-1)) else (if a1 ≥ (t102.length : Int) then (some (-1)) else (if 0 ≤ a1 then (if a1 < (t102.length : Int) then (some (rd t102 a1)) else (none)) else (none))))
set_option maxHeartbeats 8000000 in
set_option maxRecDepth 100000 in
theorem sloperef3_Select.calls (k : Nat) (a0_0 : Int) (A0_1 : Option Addr) (c0_1 : Nat) (l0_1 : List Int) (a1 : Int) (r : Int) (w : World) (hr0_1 : Kd.C (Kd.int .u64) w A0_1 l0_1.length l0_1) (hc0_1 : l0_1.length ≤ c0_1) (h : sloperef3_Select.f k a0_0 l0_1 a1 = some r) :
    Calls Tryd.prog 28 #[.agg #[.int .i64 a0_0, .slice A0_1 l0_1.length c0_1], .int .i64 a1] w fun e w' => e = .returned (.int .i64 r) ∧ Below w.heap.size w w' := by
  have hu24 := Tryd.underlying24
  have HR0_1 := Aside0.mk hr0_1
  have HC0_1 := Aside0.mk hc0_1
  clear hr0_1 hc0_1
  have HB := Aside0.mk (Below.refl w.heap.size w)
  have H : ((sloperef3_Elements.f k a0_0 l0_1).bind fun t102 => (if a1 < 0 then (some (-1)) else (if a1 ≥ (t102.length : Int) then (some (-1)) else (if 0 ≤ a1 then (if a1 < (t102.length : Int) then (some (rd t102 a1)) else (none)) else (none))))) = some r := h
  clear h
  replace H := Option.bind_eq_some_iff.mp H
  obtain ⟨t102, A30, H⟩ := H
  replace H : (if a1 < 0 then (some (-1)) else (if a1 ≥ (t102.length : Int) then (some (-1)) else (if 0 ≤ a1 then (if a1 < (t102.length : Int) then (some (rd t102 a1)) else (none)) else (none)))) = some r := H
  have A3 := Aside0.mk A30
  clear A30
  by_cases c4 : a1 < 0
  · rw [if_pos c4] at H
    have c4b0 : decide (a1 < 0) = true := decide_eq_true c4
    clear c4
    obtain rfl := Option.some.inj H
    go_enter Tryd.func28, Tryd.ntmps28
    go_wp2_with (first | ((with_reducible refine gate_dst (N := 2) rfl ?_); (try (refine gate_guard (by rfl) ?_; dsimp only)); refine box_event ?hg (N := 2) ?hd (cs := #[.int .i64 a0_0, .slice A0_1 l0_1.length c0_1]) (t := 24) ?hr ?_; (case hd => rfl); (case hg => rfl); (case hr => first | (go_simp; done) | (go_simp; rfl)); intro gb101 hg w5 hbox hb; have n0_ := Aside0.mk (below_step (by repeat (first | (with_reducible first | exact HB.out | apply below_alloc | apply pw_below_drewN | apply below_drew1) | exact HB.out)) hb); have n1_ := Aside0.mk (hbox); have n2_ := Aside0.mk ((by rw [hg]; exact (below_size (by repeat (first | (with_reducible first | exact HB.out | apply below_alloc | apply pw_below_drewN | apply below_drew1) | exact HB.out))) : w.heap.size ≤ gb101)); have n3_ := Aside0.mk ((by rw [hg]; exact (below_size (by repeat (first | (with_reducible first | exact HB.out | apply below_alloc | apply pw_below_drewN | apply below_drew1) | exact HB.out))) : w.heap.size ≤ gb101)); clear HB; have HB := n0_; have BK101 := n1_; have GW101 := n2_; have GE101 := n3_; clear n0_ n1_ n2_ n3_; clear hb hbox hg; have hcz6_0 : w5.cell? ⟨gb101, 0, none⟩ = some (.int .i64 a0_0) := (blk_cell BK101.out 0).trans rfl; have hcz6_1 : w5.cell? ⟨gb101, 1, none⟩ = some (.slice A0_1 l0_1.length c0_1) := (blk_cell BK101.out 1).trans rfl; have hfz6_0 := blk_frozen BK101.out 0; have hfz6_1 := blk_frozen BK101.out 1) | ((with_reducible refine gate_callee (f := 35) rfl ?_); refine goesL_ (some 7) rfl rfl Tryd.func35 (by kernel_rfl) rfl #[.agg #[.int .i64 a0_0, .slice A0_1 l0_1.length c0_1]] rfl (by (try simp only [List.map_toArray, List.map_cons, List.map_nil]); first | done | rfl | (simp only [List.length_drop, List.length_take]; rfl)) ?_; (with_reducible refine (sloperef3_Elements.calls k a0_0 _ _ l0_1 t102 _ ?side1 ?side2 A3.out).mono ?_); (case side1 => repeat (first | exact (Kd.C_below HR0_1.out HB.out) | (with_reducible refine Kd.C_alloc ?_ _) | (with_reducible refine Kd.C_drewN ?_ _) | (with_reducible refine Kd.C_drew ?_))); (case side2 => exact HC0_1.out); rintro e w7 ⟨v103, rfl, ho0, hb⟩; refine ⟨_, rfl, ?_⟩; have n0_ := Aside0.mk (Kd.R_lower ho0 (below_size (by repeat (first | (with_reducible first | exact HB.out | apply below_alloc | apply pw_below_drewN | apply below_drew1 | refine below_set ?_ GE101.out) | exact HB.out)))); have n1_ := Aside0.mk (blk_below (g := gb101) (o := .cells #[.int .i64 a0_0, .slice A0_1 l0_1.length c0_1] 24 (0, 0)) (by (with_reducible repeat (first | refine blk_drewN ?_ _ | refine blk_drew ?_ | refine blk_alloc ?_ _)); exact BK101.out) hb); have n2_ := Aside0.mk (below_step (by repeat (first | (with_reducible first | exact HB.out | apply below_alloc | apply pw_below_drewN | apply below_drew1 | refine below_set ?_ GE101.out) | exact HB.out)) hb); clear BK101; clear HB; have HO104 := n0_; have BK101 := n1_; have HB := n2_; clear n0_ n1_ n2_; (try clear hb); (try clear hb2); (try clear hk); (try clear hi); (try clear ho0)))
    go_ret
    exact ⟨by first | rfl | (simp [errW_none, errW_some] <;> rfl) | (simp [*, errW_none, errW_some] <;> rfl), by repeat (first | (with_reducible first | exact HB.out | apply below_alloc | apply pw_below_drewN | apply below_drew1 | refine below_set ?_ GE101.out) | exact HB.out)⟩
  · rw [if_neg c4] at H
    have c4b0 : decide (a1 < 0) = false := decide_eq_false c4
    clear c4
    by_cases c8 : a1 ≥ (t102.length : Int)
    · rw [if_pos c8] at H
      have c8b0 : decide ((t102.length : Int) ≤ a1) = true := decide_eq_true c8
      clear c8
      obtain rfl := Option.some.inj H
      go_enter Tryd.func28, Tryd.ntmps28
      go_wp2_with (first | ((with_reducible refine gate_dst (N := 2) rfl ?_); (try (refine gate_guard (by rfl) ?_; dsimp only)); refine box_event ?hg (N := 2) ?hd (cs := #[.int .i64 a0_0, .slice A0_1 l0_1.length c0_1]) (t := 24) ?hr ?_; (case hd => rfl); (case hg => rfl); (case hr => first | (go_simp; done) | (go_simp; rfl)); intro gb101 hg w9 hbox hb; have n0_ := Aside0.mk (below_step (by repeat (first | (with_reducible first | exact HB.out | apply below_alloc | apply pw_below_drewN | apply below_drew1) | exact HB.out)) hb); have n1_ := Aside0.mk (hbox); have n2_ := Aside0.mk ((by rw [hg]; exact (below_size (by repeat (first | (with_reducible first | exact HB.out | apply below_alloc | apply pw_below_drewN | apply below_drew1) | exact HB.out))) : w.heap.size ≤ gb101)); have n3_ := Aside0.mk ((by rw [hg]; exact (below_size (by repeat (first | (with_reducible first | exact HB.out | apply below_alloc | apply pw_below_drewN | apply below_drew1) | exact HB.out))) : w.heap.size ≤ gb101)); clear HB; have HB := n0_; have BK101 := n1_; have GW101 := n2_; have GE101 := n3_; clear n0_ n1_ n2_ n3_; clear hb hbox hg; have hcz10_0 : w9.cell? ⟨gb101, 0, none⟩ = some (.int .i64 a0_0) := (blk_cell BK101.out 0).trans rfl; have hcz10_1 : w9.cell? ⟨gb101, 1, none⟩ = some (.slice A0_1 l0_1.length c0_1) := (blk_cell BK101.out 1).trans rfl; have hfz10_0 := blk_frozen BK101.out 0; have hfz10_1 := blk_frozen BK101.out 1) | ((with_reducible refine gate_callee (f := 35) rfl ?_); refine goesL_ (some 7) rfl rfl Tryd.func35 (by kernel_rfl) rfl #[.agg #[.int .i64 a0_0, .slice A0_1 l0_1.length c0_1]] rfl (by (try simp only [List.map_toArray, List.map_cons, List.map_nil]); first | done | rfl | (simp only [List.length_drop, List.length_take]; rfl)) ?_; (with_reducible refine (sloperef3_Elements.calls k a0_0 _ _ l0_1 t102 _ ?side1 ?side2 A3.out).mono ?_); (case side1 => repeat (first | exact (Kd.C_below HR0_1.out HB.out) | (with_reducible refine Kd.C_alloc ?_ _) | (with_reducible refine Kd.C_drewN ?_ _) | (with_reducible refine Kd.C_drew ?_))); (case side2 => exact HC0_1.out); rintro e w11 ⟨v103, rfl, ho0, hb⟩; refine ⟨_, rfl, ?_⟩; have n0_ := Aside0.mk (Kd.R_lower ho0 (below_size (by repeat (first | (with_reducible first | exact HB.out | apply below_alloc | apply pw_below_drewN | apply below_drew1 | refine below_set ?_ GE101.out) | exact HB.out)))); have n1_ := Aside0.mk (blk_below (g := gb101) (o := .cells #[.int .i64 a0_0, .slice A0_1 l0_1.length c0_1] 24 (0, 0)) (by (with_reducible repeat (first | refine blk_drewN ?_ _ | refine blk_drew ?_ | refine blk_alloc ?_ _)); exact BK101.out) hb); have n2_ := Aside0.mk (below_step (by repeat (first | (with_reducible first | exact HB.out | apply below_alloc | apply pw_below_drewN | apply below_drew1 | refine below_set ?_ GE101.out) | exact HB.out)) hb); clear BK101; clear HB; have HO104 := n0_; have BK101 := n1_; have HB := n2_; clear n0_ n1_ n2_; (try clear hb); (try clear hb2); (try clear hk); (try clear hi); (try clear ho0); obtain ⟨Ao12, co12, eo12⟩ := Kd.R_slice HO104.out; subst eo12))
      go_ret
      exact ⟨by first | rfl | (simp [errW_none, errW_some] <;> rfl) | (simp [*, errW_none, errW_some] <;> rfl), by repeat (first | (with_reducible first | exact HB.out | apply below_alloc | apply pw_below_drewN | apply below_drew1 | refine below_set ?_ GE101.out) | exact HB.out)⟩
    · rw [if_neg c8] at H
      have c8b0 : decide ((t102.length : Int) ≤ a1) = false := decide_eq_false c8
      clear c8
      by_cases c13 : 0 ≤ a1
      · rw [if_pos c13] at H
        have c13b0 : decide (0 ≤ a1) = true := decide_eq_true c13
        clear c13
        by_cases c14 : a1 < (t102.length : Int)
        · rw [if_pos c14] at H
          have c14b0 : decide (a1 < (t102.length : Int)) = true := decide_eq_true c14
          clear c14
          obtain rfl := Option.some.inj H
          go_enter Tryd.func28, Tryd.ntmps28
          go_wp2_with (first | ((with_reducible refine gate_dst (N := 2) rfl ?_); (try (refine gate_guard (by rfl) ?_; dsimp only)); refine box_event ?hg (N := 2) ?hd (cs := #[.int .i64 a0_0, .slice A0_1 l0_1.length c0_1]) (t := 24) ?hr ?_; (case hd => rfl); (case hg => rfl); (case hr => first | (go_simp; done) | (go_simp; rfl)); intro gb101 hg w15 hbox hb; have n0_ := Aside0.mk (below_step (by repeat (first | (with_reducible first | exact HB.out | apply below_alloc | apply pw_below_drewN | apply below_drew1) | exact HB.out)) hb); have n1_ := Aside0.mk (hbox); have n2_ := Aside0.mk ((by rw [hg]; exact (below_size (by repeat (first | (with_reducible first | exact HB.out | apply below_alloc | apply pw_below_drewN | apply below_drew1) | exact HB.out))) : w.heap.size ≤ gb101)); have n3_ := Aside0.mk ((by rw [hg]; exact (below_size (by repeat (first | (with_reducible first | exact HB.out | apply below_alloc | apply pw_below_drewN | apply below_drew1) | exact HB.out))) : w.heap.size ≤ gb101)); clear HB; have HB := n0_; have BK101 := n1_; have GW101 := n2_; have GE101 := n3_; clear n0_ n1_ n2_ n3_; clear hb hbox hg; have hcz16_0 : w15.cell? ⟨gb101, 0, none⟩ = some (.int .i64 a0_0) := (blk_cell BK101.out 0).trans rfl; have hcz16_1 : w15.cell? ⟨gb101, 1, none⟩ = some (.slice A0_1 l0_1.length c0_1) := (blk_cell BK101.out 1).trans rfl; have hfz16_0 := blk_frozen BK101.out 0; have hfz16_1 := blk_frozen BK101.out 1) | ((with_reducible refine gate_callee (f := 35) rfl ?_); refine goesL_ (some 7) rfl rfl Tryd.func35 (by kernel_rfl) rfl #[.agg #[.int .i64 a0_0, .slice A0_1 l0_1.length c0_1]] rfl (by (try simp only [List.map_toArray, List.map_cons, List.map_nil]); first | done | rfl | (simp only [List.length_drop, List.length_take]; rfl)) ?_; (with_reducible refine (sloperef3_Elements.calls k a0_0 _ _ l0_1 t102 _ ?side1 ?side2 A3.out).mono ?_); (case side1 => repeat (first | exact (Kd.C_below HR0_1.out HB.out) | (with_reducible refine Kd.C_alloc ?_ _) | (with_reducible refine Kd.C_drewN ?_ _) | (with_reducible refine Kd.C_drew ?_))); (case side2 => exact HC0_1.out); rintro e w17 ⟨v103, rfl, ho0, hb⟩; refine ⟨_, rfl, ?_⟩; have n0_ := Aside0.mk (Kd.R_lower ho0 (below_size (by repeat (first | (with_reducible first | exact HB.out | apply below_alloc | apply pw_below_drewN | apply below_drew1 | refine below_set ?_ GE101.out) | exact HB.out)))); have n1_ := Aside0.mk (blk_below (g := gb101) (o := .cells #[.int .i64 a0_0, .slice A0_1 l0_1.length c0_1] 24 (0, 0)) (by (with_reducible repeat (first | refine blk_drewN ?_ _ | refine blk_drew ?_ | refine blk_alloc ?_ _)); exact BK101.out) hb); have n2_ := Aside0.mk (below_step (by repeat (first | (with_reducible first | exact HB.out | apply below_alloc | apply pw_below_drewN | apply below_drew1 | refine below_set ?_ GE101.out) | exact HB.out)) hb); clear BK101; clear HB; have HO104 := n0_; have BK101 := n1_; have HB := n2_; clear n0_ n1_ n2_; (try clear hb); (try clear hb2); (try clear hk); (try clear hi); (try clear ho0); obtain ⟨Ao18, co18, eo18⟩ := Kd.R_slice HO104.out; subst eo18; have p105 : 0 ≤ (a1 : Int) := of_decide_eq_true (by first | (with_reducible assumption) | assumption); have q105 : a1 < (t102.length : Int) := of_decide_eq_true (by first | (with_reducible assumption) | assumption); obtain ⟨ad105, e105, hx105_0⟩ := Kd.at_int (Kd.R_reads' HO104.out).2.2 a1 p105 q105; cases e105; replace p105 := eq_true p105; replace q105 := eq_true q105))
          go_ret
          exact ⟨by first | rfl | (simp [errW_none, errW_some] <;> rfl) | (simp [*, errW_none, errW_some] <;> rfl), by repeat (first | (with_reducible first | exact HB.out | apply below_alloc | apply pw_below_drewN | apply below_drew1 | refine below_set ?_ GE101.out) | exact HB.out)⟩
        · rw [if_neg c14] at H
          exact absurd H (by simp)
      · rw [if_neg c13] at H
        exact absurd H (by simp)
end Go.Proofs.YtjmkhdhffmlhiaaDoor.PAll
end
section
namespace Go.Proofs.YtjmkhdhffmlhiaaDoor.PAll
open Go.RowKit Go.Proofs.YtjmkhdhffmlhiaaDoorW.PrintWords Go.Proofs.YtjmkhdhffmlhiaaDoorW.PrintLast Go.Proofs.YtjmkhdhffmlhiaaDoorW.PrintMore
attribute [local go_sem] max2_int min2_int max_two min_two max_three min_three max_four min_four w64_u8 w64_mod256   -- for this text's walks alone
set_option linter.unusedVariables false
set_option linter.unusedSimpArgs false
mutual
def sloperef3_Next.l0 : Nat → Int → List Int → Int → Int → Int → Option (Int × Int)
  | 0, _, _, _, _, _ => none
  | k + 1, x1, x6, x7, x8, x9 => if x9 < (x6.length : Int) then (if 0 ≤ x9 then (if (rd x6 x9) ≥ x1 then (sloperef3_Next.j1 k x1 x6 x7 x8 x9 (decide (x7 < 0))) else (sloperef3_Next.j1 k x1 x6 x7 x8 x9 false)) else (none)) else (some (x7, x8))
def sloperef3_Next.j1 : Nat → Int → List Int → Int → Int → Int → Bool → Option (Int × Int)
  | 0, _, _, _, _, _, _ => none
  | k + 1, x1, x6, x7, x8, x9, x27 => if x27 = true then (if 0 ≤ x9 then (if x9 < (x6.length : Int) then (if (rd x6 x9) ≤ x1 then (sloperef3_Next.l0 k x1 x6 (rd x6 x9) (rd x6 x9) (wrap64 (x9 + 1))) else (sloperef3_Next.l0 k x1 x6 (rd x6 x9) x8 (wrap64 (x9 + 1)))) else (none)) else (none)) else (if 0 ≤ x9 then (if x9 < (x6.length : Int) then (if (rd x6 x9) ≤ x1 then (sloperef3_Next.l0 k x1 x6 x7 (rd x6 x9) (wrap64 (x9 + 1))) else (sloperef3_Next.l0 k x1 x6 x7 x8 (wrap64 (x9 + 1)))) else (none)) else (none))
end
def sloperef3_Next.f (k : Nat) (a0_0 : Int) (l0_1 : List Int) (a1 : Int) : Option (Int × Int) := (sloperef3_Elements.f k a0_0 l0_1).bind fun t102 => (sloperef3_Next.l0 k a1 t102 (-1) (-1) 0)
set_option maxHeartbeats 8000000 in
set_option maxRecDepth 100000 in
theorem sloperef3_Next.calls (k : Nat) (a0_0 : Int) (A0_1 : Option Addr) (c0_1 : Nat) (l0_1 : List Int) (a1 : Int) (r1 : Int) (r2 : Int) (w : World) (hr0_1 : Kd.C (Kd.int .u64) w A0_1 l0_1.length l0_1) (hc0_1 : l0_1.length ≤ c0_1) (h : sloperef3_Next.f k a0_0 l0_1 a1 = some (r1, r2)) :
    Calls Tryd.prog 24 #[.agg #[.int .i64 a0_0, .slice A0_1 l0_1.length c0_1], .int .i64 a1] w fun e w' => e = .returned (.tuple #[.int .i64 r1, .int .i64 r2]) ∧ Below w.heap.size w w' := by
  have hu24 := Tryd.underlying24
  have HR0_1 := Aside0.mk hr0_1
  have HC0_1 := Aside0.mk hc0_1
  clear hr0_1 hc0_1
  have HB := Aside0.mk (Below.refl w.heap.size w)
  have H : ((sloperef3_Elements.f k a0_0 l0_1).bind fun t102 => (sloperef3_Next.l0 k a1 t102 (-1) (-1) 0)) = some (r1, r2) := h
  clear h
  replace H := Option.bind_eq_some_iff.mp H
  obtain ⟨t102, A30, H⟩ := H
  replace H : (sloperef3_Next.l0 k a1 t102 (-1) (-1) 0) = some (r1, r2) := H
  have A3 := Aside0.mk A30
  clear A30
  have H' := Aside0.mk H
  clear H
  go_enter Tryd.func24, Tryd.ntmps24
  go_wp2_with (first | ((with_reducible refine gate_dst (N := 2) rfl ?_); refine box_event ?hg (N := 2) ?hd (cs := #[.int .i64 a0_0, .slice A0_1 l0_1.length c0_1]) (t := 24) ?hr ?_; (case hd => rfl); (case hg => rfl); (case hr => first | (go_simp; done) | (go_simp; rfl)); intro gb101 hg w4 hbox hb; have n0_ := Aside0.mk (below_step (by repeat (first | (with_reducible first | exact HB.out | apply below_alloc | apply pw_below_drewN | apply below_drew1) | exact HB.out)) hb); have n1_ := Aside0.mk (hbox); have n2_ := Aside0.mk ((by rw [hg]; exact (below_size (by repeat (first | (with_reducible first | exact HB.out | apply below_alloc | apply pw_below_drewN | apply below_drew1) | exact HB.out))) : w.heap.size ≤ gb101)); have n3_ := Aside0.mk ((by rw [hg]; exact (below_size (by repeat (first | (with_reducible first | exact HB.out | apply below_alloc | apply pw_below_drewN | apply below_drew1) | exact HB.out))) : w.heap.size ≤ gb101)); clear HB; have HB := n0_; have BK101 := n1_; have GW101 := n2_; have GE101 := n3_; clear n0_ n1_ n2_ n3_; clear hb hbox hg; have hcz5_0 : w4.cell? ⟨gb101, 0, none⟩ = some (.int .i64 a0_0) := (blk_cell BK101.out 0).trans rfl; have hcz5_1 : w4.cell? ⟨gb101, 1, none⟩ = some (.slice A0_1 l0_1.length c0_1) := (blk_cell BK101.out 1).trans rfl; have hfz5_0 := blk_frozen BK101.out 0; have hfz5_1 := blk_frozen BK101.out 1) | ((with_reducible refine gate_callee (f := 35) rfl ?_); refine goesL_ (some 11) rfl rfl Tryd.func35 (by kernel_rfl) rfl #[.agg #[.int .i64 a0_0, .slice A0_1 l0_1.length c0_1]] rfl (by (try simp only [List.map_toArray, List.map_cons, List.map_nil]); first | done | rfl | (simp only [List.length_drop, List.length_take]; rfl)) ?_; (with_reducible refine (sloperef3_Elements.calls k a0_0 _ _ l0_1 t102 _ ?side1 ?side2 A3.out).mono ?_); (case side1 => repeat (first | exact (Kd.C_below HR0_1.out HB.out) | (with_reducible refine Kd.C_alloc ?_ _) | (with_reducible refine Kd.C_drewN ?_ _) | (with_reducible refine Kd.C_drew ?_))); (case side2 => exact HC0_1.out); rintro e w6 ⟨v103, rfl, ho0, hb⟩; refine ⟨_, rfl, ?_⟩; have n0_ := Aside0.mk (Kd.R_lower ho0 (below_size (by repeat (first | (with_reducible first | exact HB.out | apply below_alloc | apply pw_below_drewN | apply below_drew1 | refine below_set ?_ GE101.out) | exact HB.out)))); have n1_ := Aside0.mk (blk_below (g := gb101) (o := .cells #[.int .i64 a0_0, .slice A0_1 l0_1.length c0_1] 24 (0, 0)) (by (with_reducible repeat (first | refine blk_drewN ?_ _ | refine blk_drew ?_ | refine blk_alloc ?_ _)); exact BK101.out) hb); have n2_ := Aside0.mk (below_step (by repeat (first | (with_reducible first | exact HB.out | apply below_alloc | apply pw_below_drewN | apply below_drew1 | refine below_set ?_ GE101.out) | exact HB.out)) hb); clear BK101; clear HB; have HO104 := n0_; have BK101 := n1_; have HB := n2_; clear n0_ n1_ n2_; (try clear hb); (try clear hb2); (try clear hk); (try clear hi); (try clear ho0)))
  go_loopg [7, 8, 9] k (fun kq v7 v8 v9 w' => ∃ (x7_1 : Int) (x8_1 : Int) (x9_1 : Int), v7 = .int .i64 x7_1 ∧ v8 = .int .i64 x8_1 ∧ v9 = .int .i64 x9_1 ∧ Aside0 (sloperef3_Next.l0 kq a1 t102 x7_1 x8_1 x9_1 = some (r1, r2)) ∧ Aside0 (kq ≤ k) ∧ Aside0 (Kd.R (Kd.int .i64) 3 w' w.heap.size (fun _ => True) v103 t102) ∧ Aside0 (w'.heap[gb101]? = some (.cells #[.int .i64 a0_0, (.slice A0_1 l0_1.length c0_1)] 24 (0, 0))) ∧ Aside0 (Below w.heap.size w w'))
  case atStart => exact ⟨((-1)), ((-1)), (0), (by first | rfl | (simp; done) | (simp [*]; done)), (by first | rfl | (simp; done) | (simp [*]; done)), (by first | rfl | (simp; done) | (simp [*]; done)), H', ⟨Nat.le_refl _⟩, ⟨by (with_reducible repeat (first | apply Kd.R_alloc | apply Kd.R_drewN | apply Kd.R_drew)); exact HO104.out⟩, ⟨by (with_reducible repeat (first | refine blk_drewN ?_ _ | refine blk_drew ?_ | refine blk_alloc ?_ _)); exact BK101.out⟩, ⟨by repeat (first | (with_reducible first | exact HB.out | apply below_alloc | apply pw_below_drewN | apply below_drew1 | refine below_set ?_ GE101.out) | exact HB.out)⟩⟩
  case round =>
    clear H'
    try clear c2
    try clear p2
    try clear c3
    try clear hcz5_0
    try clear hcz5_1
    try clear hfz5_0
    try clear hfz5_1
    obtain ⟨x7_1, x8_1, x9_1, rfl, rfl, rfl, HA, HK1, HO_6, BK101, HB⟩ := hrel
    cases gk with
    | zero => exact absurd HA.out (by simp [sloperef3_Next.l0])
    | succ k1 =>
      have H := HA.out
      clear HA
      simp only [sloperef3_Next.l0] at H
      by_cases c7 : x9_1 < (t102.length : Int)
      · rw [if_pos c7] at H
        have c7b0 : decide (x9_1 < (t102.length : Int)) = true := decide_eq_true c7
        clear c7
        have HC8 := Aside0.mk H
        clear H
        obtain ⟨Ao9, co9, eo9⟩ := Kd.R_slice HO_6.out
        subst eo9
        go_upto_region 7 with (fail)
        go_cut [27] (fun v27 wc => ∃ (kq : Nat) (x27_7 : Bool), v27 = .bool x27_7 ∧ Aside0 (sloperef3_Next.j1 kq a1 t102 x7_1 x8_1 x9_1 x27_7 = some (r1, r2)) ∧ Aside0 (kq ≤ k1) ∧ Aside0 (Kd.R (Kd.int .i64) 3 wc w.heap.size (fun _ => True) (.slice Ao9 t102.length co9) t102) ∧ Aside0 (wc.heap[gb101]? = some (.cells #[.int .i64 a0_0, (.slice A0_1 l0_1.length c0_1)] 24 (0, 0))) ∧ Aside0 (Below w.heap.size w wc))
        case first =>
          have H := HC8.out
          clear HC8
          by_cases c10 : 0 ≤ x9_1
          · rw [if_pos c10] at H
            have c10b0 : decide (0 ≤ x9_1) = true := decide_eq_true c10
            clear c10
            (first | rw [c10b0] | (simp only [i64_w, i32_w]; rw [c10b0]) | skip)
            by_cases c11 : (rd t102 x9_1) ≥ a1
            · rw [if_pos c11] at H
              have c11b0 : decide (a1 ≤ (rd t102 x9_1)) = true := decide_eq_true c11
              clear c11
              have H' := Aside0.mk H
              clear H
              have p105 : 0 ≤ (x9_1 : Int) := of_decide_eq_true (by first | (with_reducible assumption) | assumption)
              have q105 : x9_1 < (t102.length : Int) := of_decide_eq_true (by first | (with_reducible assumption) | assumption)
              obtain ⟨ad105, e105, hx105_0⟩ := Kd.at_int (Kd.R_reads' HO_6.out).2.2 x9_1 p105 q105
              cases e105
              replace p105 := eq_true p105
              replace q105 := eq_true q105
              go_wp2
              go_meet
              case rel => exact ⟨_, (decide (x7_1 < 0)), (by first | rfl | (simp; done) | (simp [*]; done)), H', ⟨by have := HK1.out; first | omega | exact Nat.le_refl _⟩, ⟨by (with_reducible repeat (first | apply Kd.R_alloc | apply Kd.R_drewN | apply Kd.R_drew)); exact HO_6.out⟩, ⟨by (with_reducible repeat (first | refine blk_drewN ?_ _ | refine blk_drew ?_ | refine blk_alloc ?_ _)); exact BK101.out⟩, ⟨by repeat (first | (with_reducible first | exact HB.out | apply below_alloc | apply pw_below_drewN | apply below_drew1 | refine below_set ?_ GE101.out) | exact HB.out)⟩⟩
            · rw [if_neg c11] at H
              have c11b0 : decide (a1 ≤ (rd t102 x9_1)) = false := decide_eq_false c11
              clear c11
              have H' := Aside0.mk H
              clear H
              have p105 : 0 ≤ (x9_1 : Int) := of_decide_eq_true (by first | (with_reducible assumption) | assumption)
              have q105 : x9_1 < (t102.length : Int) := of_decide_eq_true (by first | (with_reducible assumption) | assumption)
              obtain ⟨ad105, e105, hx105_0⟩ := Kd.at_int (Kd.R_reads' HO_6.out).2.2 x9_1 p105 q105
              cases e105
              replace p105 := eq_true p105
              replace q105 := eq_true q105
              go_wp2
              go_meet
              case rel => exact ⟨_, (false), (by first | rfl | (simp; done) | (simp [*]; done)), H', ⟨by have := HK1.out; first | omega | exact Nat.le_refl _⟩, ⟨by (with_reducible repeat (first | apply Kd.R_alloc | apply Kd.R_drewN | apply Kd.R_drew)); exact HO_6.out⟩, ⟨by (with_reducible repeat (first | refine blk_drewN ?_ _ | refine blk_drew ?_ | refine blk_alloc ?_ _)); exact BK101.out⟩, ⟨by repeat (first | (with_reducible first | exact HB.out | apply below_alloc | apply pw_below_drewN | apply below_drew1 | refine below_set ?_ GE101.out) | exact HB.out)⟩⟩
          · rw [if_neg c10] at H
            exact absurd H (by simp)
        case rest =>
          clear HC8
          try clear c1
          try clear p1
          try clear q1
          try clear hx1
          try clear c2
          try clear p2
          try clear c3
          try clear c7
          try clear c7b0
          try clear c10
          try clear c10b0
          try clear p10
          try clear q10
          try clear hx10
          try clear c11
          try clear c11b0
          try clear hcz5_0
          try clear hcz5_1
          try clear hfz5_0
          try clear hfz5_1
          try clear hx105_0
          try clear p105
          try clear p2
          try clear q105
          obtain ⟨kq, x27_7, rfl, HA, HJ7, HO_6, BK101, HB⟩ := hcut
          cases kq with
          | zero => exact absurd HA.out (by simp [sloperef3_Next.j1])
          | succ kj7 =>
            have H := HA.out
            clear HA
            simp only [sloperef3_Next.j1] at H
            by_cases c12 : x27_7 = true
            · subst c12
              have H1 : (if 0 ≤ x9_1 then (if x9_1 < (t102.length : Int) then (if (rd t102 x9_1) ≤ a1 then (sloperef3_Next.l0 kj7 a1 t102 (rd t102 x9_1) (rd t102 x9_1) (wrap64 (x9_1 + 1))) else (sloperef3_Next.l0 kj7 a1 t102 (rd t102 x9_1) x8_1 (wrap64 (x9_1 + 1)))) else (none)) else (none)) = some (r1, r2) := by rw [if_pos rfl] at H; exact H
              clear H
              have H := H1
              clear H1
              by_cases c13 : 0 ≤ x9_1
              · rw [if_pos c13] at H
                have c13b0 : decide (0 ≤ x9_1) = true := decide_eq_true c13
                clear c13
                by_cases c14 : x9_1 < (t102.length : Int)
                · rw [if_pos c14] at H
                  have c14b0 : decide (x9_1 < (t102.length : Int)) = true := decide_eq_true c14
                  clear c14
                  by_cases c15 : (rd t102 x9_1) ≤ a1
                  · rw [if_pos c15] at H
                    have c15b0 : decide ((rd t102 x9_1) ≤ a1) = true := decide_eq_true c15
                    clear c15
                    have H' := Aside0.mk H
                    clear H
                    have p106 : 0 ≤ (x9_1 : Int) := of_decide_eq_true (by first | (with_reducible assumption) | assumption)
                    have q106 : x9_1 < (t102.length : Int) := of_decide_eq_true (by first | (with_reducible assumption) | assumption)
                    obtain ⟨ad106, e106, hx106_0⟩ := Kd.at_int (Kd.R_reads' HO_6.out).2.2 x9_1 p106 q106
                    cases e106
                    replace p106 := eq_true p106
                    replace q106 := eq_true q106
                    have p107 : 0 ≤ (x9_1 : Int) := of_decide_eq_true (by first | (with_reducible assumption) | assumption)
                    have q107 : x9_1 < (t102.length : Int) := of_decide_eq_true (by first | (with_reducible assumption) | assumption)
                    obtain ⟨ad107, e107, hx107_0⟩ := Kd.at_int (Kd.R_reads' HO_6.out).2.2 x9_1 p107 q107
                    obtain rfl : ad106 = ad107 := (by injection e107)
                    replace p107 := eq_true p107
                    replace q107 := eq_true q107
                    have p108 : 0 ≤ (x9_1 : Int) := of_decide_eq_true (by first | (with_reducible assumption) | assumption)
                    have q108 : x9_1 < (t102.length : Int) := of_decide_eq_true (by first | (with_reducible assumption) | assumption)
                    obtain ⟨ad108, e108, hx108_0⟩ := Kd.at_int (Kd.R_reads' HO_6.out).2.2 x9_1 p108 q108
                    obtain rfl : ad106 = ad108 := (by injection e108)
                    replace p108 := eq_true p108
                    replace q108 := eq_true q108
                    go_wp2
                    go_roundg kj7
                    case measure => have := HK1.out; have := HJ7.out; omega
                    case rel => exact ⟨(rd t102 x9_1), (rd t102 x9_1), (wrap64 (x9_1 + 1)), (by first | rfl | (simp; done) | (simp [*]; done)), (by first | rfl | (simp; done) | (simp [*]; done)), (by first | rfl | (simp; done) | (simp [*]; done)), H', ⟨by have := HK1.out; have := HJ7.out; omega⟩, ⟨by (with_reducible repeat (first | apply Kd.R_alloc | apply Kd.R_drewN | apply Kd.R_drew)); exact HO_6.out⟩, ⟨by (with_reducible repeat (first | refine blk_drewN ?_ _ | refine blk_drew ?_ | refine blk_alloc ?_ _)); exact BK101.out⟩, ⟨by repeat (first | (with_reducible first | exact HB.out | apply below_alloc | apply pw_below_drewN | apply below_drew1 | refine below_set ?_ GE101.out) | exact HB.out)⟩⟩
                  · rw [if_neg c15] at H
                    have c15b0 : decide ((rd t102 x9_1) ≤ a1) = false := decide_eq_false c15
                    clear c15
                    have H' := Aside0.mk H
                    clear H
                    have p106 : 0 ≤ (x9_1 : Int) := of_decide_eq_true (by first | (with_reducible assumption) | assumption)
                    have q106 : x9_1 < (t102.length : Int) := of_decide_eq_true (by first | (with_reducible assumption) | assumption)
                    obtain ⟨ad106, e106, hx106_0⟩ := Kd.at_int (Kd.R_reads' HO_6.out).2.2 x9_1 p106 q106
                    cases e106
                    replace p106 := eq_true p106
                    replace q106 := eq_true q106
                    have p107 : 0 ≤ (x9_1 : Int) := of_decide_eq_true (by first | (with_reducible assumption) | assumption)
                    have q107 : x9_1 < (t102.length : Int) := of_decide_eq_true (by first | (with_reducible assumption) | assumption)
                    obtain ⟨ad107, e107, hx107_0⟩ := Kd.at_int (Kd.R_reads' HO_6.out).2.2 x9_1 p107 q107
                    obtain rfl : ad106 = ad107 := (by injection e107)
                    replace p107 := eq_true p107
                    replace q107 := eq_true q107
                    go_wp2
                    go_roundg kj7
                    case measure => have := HK1.out; have := HJ7.out; omega
                    case rel => exact ⟨(rd t102 x9_1), (x8_1), (wrap64 (x9_1 + 1)), (by first | rfl | (simp; done) | (simp [*]; done)), (by first | rfl | (simp; done) | (simp [*]; done)), (by first | rfl | (simp; done) | (simp [*]; done)), H', ⟨by have := HK1.out; have := HJ7.out; omega⟩, ⟨by (with_reducible repeat (first | apply Kd.R_alloc | apply Kd.R_drewN | apply Kd.R_drew)); exact HO_6.out⟩, ⟨by (with_reducible repeat (first | refine blk_drewN ?_ _ | refine blk_drew ?_ | refine blk_alloc ?_ _)); exact BK101.out⟩, ⟨by repeat (first | (with_reducible first | exact HB.out | apply below_alloc | apply pw_below_drewN | apply below_drew1 | refine below_set ?_ GE101.out) | exact HB.out)⟩⟩
                · rw [if_neg c14] at H
                  exact absurd H (by simp)
              · rw [if_neg c13] at H
                exact absurd H (by simp)
            · replace c12 := Bool.eq_false_iff.mpr c12
              subst c12
              have H1 : (if 0 ≤ x9_1 then (if x9_1 < (t102.length : Int) then (if (rd t102 x9_1) ≤ a1 then (sloperef3_Next.l0 kj7 a1 t102 x7_1 (rd t102 x9_1) (wrap64 (x9_1 + 1))) else (sloperef3_Next.l0 kj7 a1 t102 x7_1 x8_1 (wrap64 (x9_1 + 1)))) else (none)) else (none)) = some (r1, r2) := by rw [if_neg (show ¬ (false = true) by decide)] at H; exact H
              clear H
              have H := H1
              clear H1
              by_cases c16 : 0 ≤ x9_1
              · rw [if_pos c16] at H
                have c16b0 : decide (0 ≤ x9_1) = true := decide_eq_true c16
                clear c16
                by_cases c17 : x9_1 < (t102.length : Int)
                · rw [if_pos c17] at H
                  have c17b0 : decide (x9_1 < (t102.length : Int)) = true := decide_eq_true c17
                  clear c17
                  by_cases c18 : (rd t102 x9_1) ≤ a1
                  · rw [if_pos c18] at H
                    have c18b0 : decide ((rd t102 x9_1) ≤ a1) = true := decide_eq_true c18
                    clear c18
                    have H' := Aside0.mk H
                    clear H
                    have p109 : 0 ≤ (x9_1 : Int) := of_decide_eq_true (by first | (with_reducible assumption) | assumption)
                    have q109 : x9_1 < (t102.length : Int) := of_decide_eq_true (by first | (with_reducible assumption) | assumption)
                    obtain ⟨ad109, e109, hx109_0⟩ := Kd.at_int (Kd.R_reads' HO_6.out).2.2 x9_1 p109 q109
                    cases e109
                    replace p109 := eq_true p109
                    replace q109 := eq_true q109
                    have p110 : 0 ≤ (x9_1 : Int) := of_decide_eq_true (by first | (with_reducible assumption) | assumption)
                    have q110 : x9_1 < (t102.length : Int) := of_decide_eq_true (by first | (with_reducible assumption) | assumption)
                    obtain ⟨ad110, e110, hx110_0⟩ := Kd.at_int (Kd.R_reads' HO_6.out).2.2 x9_1 p110 q110
                    obtain rfl : ad109 = ad110 := (by injection e110)
                    replace p110 := eq_true p110
                    replace q110 := eq_true q110
                    go_wp2
                    go_roundg kj7
                    case measure => have := HK1.out; have := HJ7.out; omega
                    case rel => exact ⟨(x7_1), (rd t102 x9_1), (wrap64 (x9_1 + 1)), (by first | rfl | (simp; done) | (simp [*]; done)), (by first | rfl | (simp; done) | (simp [*]; done)), (by first | rfl | (simp; done) | (simp [*]; done)), H', ⟨by have := HK1.out; have := HJ7.out; omega⟩, ⟨by (with_reducible repeat (first | apply Kd.R_alloc | apply Kd.R_drewN | apply Kd.R_drew)); exact HO_6.out⟩, ⟨by (with_reducible repeat (first | refine blk_drewN ?_ _ | refine blk_drew ?_ | refine blk_alloc ?_ _)); exact BK101.out⟩, ⟨by repeat (first | (with_reducible first | exact HB.out | apply below_alloc | apply pw_below_drewN | apply below_drew1 | refine below_set ?_ GE101.out) | exact HB.out)⟩⟩
                  · rw [if_neg c18] at H
                    have c18b0 : decide ((rd t102 x9_1) ≤ a1) = false := decide_eq_false c18
                    clear c18
                    have H' := Aside0.mk H
                    clear H
                    have p109 : 0 ≤ (x9_1 : Int) := of_decide_eq_true (by first | (with_reducible assumption) | assumption)
                    have q109 : x9_1 < (t102.length : Int) := of_decide_eq_true (by first | (with_reducible assumption) | assumption)
                    obtain ⟨ad109, e109, hx109_0⟩ := Kd.at_int (Kd.R_reads' HO_6.out).2.2 x9_1 p109 q109
                    cases e109
                    replace p109 := eq_true p109
                    replace q109 := eq_true q109
                    go_wp2
                    go_roundg kj7
                    case measure => have := HK1.out; have := HJ7.out; omega
                    case rel => exact ⟨(x7_1), (x8_1), (wrap64 (x9_1 + 1)), (by first | rfl | (simp; done) | (simp [*]; done)), (by first | rfl | (simp; done) | (simp [*]; done)), (by first | rfl | (simp; done) | (simp [*]; done)), H', ⟨by have := HK1.out; have := HJ7.out; omega⟩, ⟨by (with_reducible repeat (first | apply Kd.R_alloc | apply Kd.R_drewN | apply Kd.R_drew)); exact HO_6.out⟩, ⟨by (with_reducible repeat (first | refine blk_drewN ?_ _ | refine blk_drew ?_ | refine blk_alloc ?_ _)); exact BK101.out⟩, ⟨by repeat (first | (with_reducible first | exact HB.out | apply below_alloc | apply pw_below_drewN | apply below_drew1 | refine below_set ?_ GE101.out) | exact HB.out)⟩⟩
                · rw [if_neg c17] at H
                  exact absurd H (by simp)
              · rw [if_neg c16] at H
                exact absurd H (by simp)
      · rw [if_neg c7] at H
        have c7b0 : decide (x9_1 < (t102.length : Int)) = false := decide_eq_false c7
        clear c7
        simp only [Option.some.injEq, Prod.mk.injEq] at H
        obtain ⟨rfl, rfl⟩ := H
        obtain ⟨Ao19, co19, eo19⟩ := Kd.R_slice HO_6.out
        subst eo19
        go_wp2
        go_ret2
        exact ⟨by first | rfl | (simp [errW_none, errW_some] <;> rfl) | (simp [*, errW_none, errW_some] <;> rfl), by repeat (first | (with_reducible first | exact HB.out | apply below_alloc | apply pw_below_drewN | apply below_drew1 | refine below_set ?_ GE101.out) | exact HB.out)⟩
end Go.Proofs.YtjmkhdhffmlhiaaDoor.PAll
end
section
namespace Go.Proofs.YtjmkhdhffmlhiaaDoor.PAll
set_option linter.unusedVariables false
open Go.RowKit Go.Proofs.YtjmkhdhffmlhiaaDoorW.PrintWords Go.Proofs.YtjmkhdhffmlhiaaDoorW.PrintMore
theorem sel_eq {ws : List Int} {k r q : Int} (h : SelSays ws k r) (g : SelSays ws k q) : r = q := by
  have lt : ∀ e : Nat, hb ws e = true → rk ws e < cnt ws := fun e he => by
    have h4 := cnt_take ws ws.length (Nat.le_refl _)
    rw [List.take_length] at h4
    rw [h4]
    exact rk_lt ws (Nat.lt_of_not_le fun hle => by rw [hb_high hle] at he; cases he) he
  rcases h with ⟨h1, rfl⟩ | ⟨e, h1, h2, rfl⟩ <;> rcases g with ⟨g1, rfl⟩ | ⟨d, g1, g2, rfl⟩
  · rfl
  · have := lt d g1; omega
  · have := lt e h1; omega
  · rw [rk_uniq ws h1 g1 (by omega)]
def els (N : Nat) (ws : List Int) : List Int := ((List.range N).filter (hb ws)).map (fun e : Nat => (e : Int))
theorem els_succ (N : Nat) (ws : List Int) : els (N + 1) ws = els N ws ++ (if hb ws N = true then [(N : Int)] else []) := by
  unfold els
  rw [List.range_succ, List.filter_append, List.map_append]
  by_cases h : hb ws N = true
  · rw [if_pos h]; simp [h]
  · rw [if_neg h]; simp [h]
theorem els_says (ws : List Int) : ∀ N, (els N ws).length = rk ws N ∧ ∀ i, i < (els N ws).length → ∃ d : Nat, d < N ∧ rd (els N ws) (i : Int) = (d : Int) ∧ hb ws d = true ∧ rk ws d = i
  | 0 => ⟨by simp [els, rk], fun i h => by simp [els] at h⟩
  | N + 1 => by
    obtain ⟨h1, h2⟩ := els_says ws N
    by_cases h : hb ws N = true
    · have e : els (N + 1) ws = els N ws ++ [(N : Int)] := by rw [els_succ, if_pos h]
      refine ⟨by rw [e, List.length_append, h1, rk_succ, if_pos h]; rfl, fun i hi => ?_⟩
      rw [e, List.length_append] at hi
      by_cases hlt : i < (els N ws).length
      · obtain ⟨d, d1, d2, d3, d4⟩ := h2 i hlt
        refine ⟨d, by omega, ?_, d3, d4⟩
        rw [← d2, e, rd_nat, rd_nat, List.getD_eq_getElem?_getD, List.getD_eq_getElem?_getD, List.getElem?_append_left hlt]
      · have hi2 : i = (els N ws).length := by simp only [List.length_cons, List.length_nil] at hi; omega
        refine ⟨N, by omega, ?_, h, by rw [hi2, h1]⟩
        rw [e, rd_nat, List.getD_eq_getElem?_getD, List.getElem?_append_right (by omega), hi2, Nat.sub_self]
        rfl
    · have e : els (N + 1) ws = els N ws := by rw [els_succ, if_neg h, List.append_nil]
      rw [e]
      refine ⟨by rw [h1, rk_succ, if_neg h, Nat.add_zero], fun i hi => ?_⟩
      obtain ⟨d, d1, d2, d3, d4⟩ := h2 i hi
      exact ⟨d, by omega, d2, d3, d4⟩
theorem els_lt {N : Nat} {ws : List Int} {i : Nat} (hi : i < (els N ws).length) (e : Int) : rd (els N ws) (i : Int) < e ↔ i < rk ws (cl N e) := by
  obtain ⟨h1, h2⟩ := els_says ws N
  obtain ⟨d, d1, d2, d3, d4⟩ := h2 i hi
  rw [d2]
  constructor
  · intro h
    have hc : d < cl N e := by unfold cl; omega
    have := rk_lt ws hc d3
    omega
  · intro h
    refine Int.lt_of_not_ge fun hge => ?_
    have hc : cl N e ≤ d := by unfold cl; omega
    have := rk_mono ws hc
    omega
theorem rk_cl_le (N : Nat) (ws : List Int) (e : Int) : rk ws (cl N e) ≤ (els N ws).length := by
  rw [(els_says ws N).1]; exact rk_mono ws (Nat.min_le_right _ _)
theorem rRank_l0 (N : Nat) (ws : List Int) (e : Int) (hlen : (els N ws).length ≤ 4096) : ∀ d i : Nat, i + d = (els N ws).length → Ev (fun k => sloperef3_Rank.l0 k e (els N ws) ((min i (rk ws (cl N e)) : Nat) : Int) (i : Int)) (rk ws (cl N e) : Int) := by
  have hr := rk_cl_le N ws e
  intro d
  induction d with
  | zero =>
    intro i hi
    refine Ev.step (f := fun _ => some (rk ws (cl N e) : Int)) (fun k => ?_) (Ev.now _)
    rw [sloperef3_Rank.l0, if_neg (by omega), show min i (rk ws (cl N e)) = rk ws (cl N e) by omega]
  | succ d ih =>
    intro i hi
    have hlt : i < (els N ws).length := by omega
    refine Ev.step (fun k => ?_) (ih (i + 1) (by omega))
    conv => lhs; rw [sloperef3_Rank.l0]
    rw [if_pos (by omega), if_pos (by omega)]
    by_cases h : i < rk ws (cl N e)
    · rw [if_pos ((els_lt hlt e).2 h), show min i (rk ws (cl N e)) = i by omega, show min (i + 1) (rk ws (cl N e)) = i + 1 by omega, show wrap64 ((i : Int) + 1) = ((i + 1 : Nat) : Int) by unfold wrap64; omega]
    · rw [if_neg (fun hh => h ((els_lt hlt e).1 hh)), show min i (rk ws (cl N e)) = rk ws (cl N e) by omega, show min (i + 1) (rk ws (cl N e)) = rk ws (cl N e) by omega, show wrap64 ((i : Int) + 1) = ((i + 1 : Nat) : Int) by unfold wrap64; omega]
def leastAt (E : List Int) (r i : Nat) : Int := if r < i then rd E (r : Int) else -1
def mostAt (E : List Int) (q i : Nat) : Int := if 0 < min i q then rd E ((min i q - 1 : Nat) : Int) else -1
set_option maxHeartbeats 1000000 in
theorem rNext_l0 (N : Nat) (ws : List Int) (e : Int) (hlen : (els N ws).length ≤ 4096) : ∀ d i : Nat, i + d = (els N ws).length →
    Ev (fun k => sloperef3_Next.l0 k e (els N ws) (leastAt (els N ws) (rk ws (cl N e)) i) (mostAt (els N ws) (rk ws (cl N (e + 1))) i) (i : Int)) (leastAt (els N ws) (rk ws (cl N e)) (els N ws).length, mostAt (els N ws) (rk ws (cl N (e + 1))) (els N ws).length) := by
  intro d
  induction d with
  | zero =>
    intro i hi
    have hi' : i = (els N ws).length := by omega
    rw [hi']
    refine Ev.step (f := fun _ => some _) (fun k => ?_) (Ev.now _)
    rw [sloperef3_Next.l0, if_neg (by omega)]
  | succ d ih =>
    intro i hi
    have hlt : i < (els N ws).length := by omega
    have h1 := els_lt hlt e
    have h2 := els_lt hlt (e + 1)
    obtain ⟨x, x1, x2, x3, x4⟩ := (els_says ws N).2 i hlt
    have hih := ih (i + 1) (by omega)
    have hw : wrap64 ((i : Int) + 1) = ((i + 1 : Nat) : Int) := by unfold wrap64; omega
    generalize rk ws (cl N e) = r at h1 hih ⊢
    generalize rk ws (cl N (e + 1)) = q at h2 hih ⊢
    -- most
    have hm : (rd (els N ws) (i : Int) ≤ e → mostAt (els N ws) q (i + 1) = rd (els N ws) (i : Int)) ∧ (¬ rd (els N ws) (i : Int) ≤ e → mostAt (els N ws) q (i + 1) = mostAt (els N ws) q i) := by
      refine ⟨fun h => ?_, fun h => ?_⟩
      · have : i < q := h2.1 (by omega)
        unfold mostAt
        rw [show min (i + 1) q = i + 1 by omega, if_pos (by omega), Nat.add_sub_cancel]
      · have : ¬ i < q := fun hh => h (by have := h2.2 hh; omega)
        unfold mostAt
        rw [show min (i + 1) q = min i q by omega]
    by_cases hge : r ≤ i
    · have hc : rd (els N ws) (i : Int) ≥ e := Int.not_lt.1 (fun hh => by have := h1.1 hh; omega)
      by_cases heq : i = r
      · have l1 : leastAt (els N ws) r i = -1 := by unfold leastAt; rw [if_neg (by omega)]
        have l2 : leastAt (els N ws) r (i + 1) = rd (els N ws) (i : Int) := by unfold leastAt; rw [if_pos (by omega), heq]
        rw [l2] at hih
        refine Ev.step (f := fun k => sloperef3_Next.j1 k e (els N ws) (leastAt (els N ws) r i) (mostAt (els N ws) q i) (i : Int) true) (fun k => ?_) (Ev.step (fun k => ?_) hih)
        · conv => lhs; rw [sloperef3_Next.l0]
          rw [if_pos (by omega), if_pos (by omega), if_pos hc, l1, show decide ((-1 : Int) < 0) = true from rfl]
        · conv => lhs; rw [sloperef3_Next.j1]
          rw [if_pos rfl, if_pos (by omega), if_pos (by omega), hw]
          by_cases hle : rd (els N ws) (i : Int) ≤ e
          · rw [if_pos hle, hm.1 hle]
          · rw [if_neg hle, hm.2 hle]
      · have l1 : leastAt (els N ws) r (i + 1) = leastAt (els N ws) r i := by unfold leastAt; rw [if_pos (by omega), if_pos (by omega)]
        have l2 : ¬ leastAt (els N ws) r i < 0 := by
          unfold leastAt
          rw [if_pos (by omega)]
          obtain ⟨y, _, y2, _⟩ := (els_says ws N).2 r (by omega)
          rw [y2]; omega
        rw [l1] at hih
        refine Ev.step (f := fun k => sloperef3_Next.j1 k e (els N ws) (leastAt (els N ws) r i) (mostAt (els N ws) q i) (i : Int) false) (fun k => ?_) (Ev.step (fun k => ?_) hih)
        · conv => lhs; rw [sloperef3_Next.l0]
          rw [if_pos (by omega), if_pos (by omega), if_pos hc, decide_eq_false l2]
        · conv => lhs; rw [sloperef3_Next.j1]
          rw [if_neg (by simp), if_pos (by omega), if_pos (by omega), hw]
          by_cases hle : rd (els N ws) (i : Int) ≤ e
          · rw [if_pos hle, hm.1 hle]
          · rw [if_neg hle, hm.2 hle]
    · have hc : ¬ rd (els N ws) (i : Int) ≥ e := fun hh => by have := h1.2 (by omega); omega
      have l1 : leastAt (els N ws) r (i + 1) = leastAt (els N ws) r i := by unfold leastAt; rw [if_neg (by omega), if_neg (by omega)]
      rw [l1] at hih
      refine Ev.step (f := fun k => sloperef3_Next.j1 k e (els N ws) (leastAt (els N ws) r i) (mostAt (els N ws) q i) (i : Int) false) (fun k => ?_) (Ev.step (fun k => ?_) hih)
      · conv => lhs; rw [sloperef3_Next.l0]
        rw [if_pos (by omega), if_pos (by omega), if_neg hc]
      · conv => lhs; rw [sloperef3_Next.j1]
        rw [if_neg (by simp), if_pos (by omega), if_pos (by omega), hw]
        by_cases hle : rd (els N ws) (i : Int) ≤ e
        · rw [if_pos hle, hm.1 hle]
        · rw [if_neg hle, hm.2 hle]
theorem Places_none (n : Int) (ws : List Int) (e : Int) (hw : Wds ws) (hs : ws.length ≤ 9223372036854775807) (h : ¬ MayP n ws) : ∃ k,
    sloperef3_Next.f k n ws e = some (-1, -1) ∧ bitset_Rank.f k n ws e = some 0 ∧ sloperef3_Rank.f k n ws e = some 0 ∧ bitset_Select.f k n ws e = some (-1) ∧ sloperef3_Select.f k n ws e = some (-1) ∧ bitset_Next.f k n ws e = some (-1) ∧ bitset_Last.f k n ws e = some (-1) := by
  have m1 : bitset_May.f n ws = some false := by rw [May_eq n ws hw hs, may_false.2 h]
  obtain ⟨K, x⟩ := rMay_eq n ws hw hs
  dsimp only at x
  rw [may_false.2 h] at x
  have rk0 : ∀ y k, bitset_Rank.f k n ws y = some 0 := fun y k => by unfold bitset_Rank.f; rw [m1, Option.bind_some, if_neg (by simp)]
  have se0 : ∀ y k, bitset_Select.f (k + 1) n ws y = some (-1) := fun y k => by
    unfold bitset_Select.f; rw [m1, Option.bind_some, if_neg (by simp), bitset_Select.j0, if_pos rfl]
  have el0 : ∀ k, K ≤ k → sloperef3_Elements.f k n ws = some [] := fun k hk => by
    unfold sloperef3_Elements.f; rw [x k hk, Option.bind_some, if_neg (by simp)]
  refine ⟨K + 1, ?_, rk0 _ _, ?_, se0 _ _, ?_, ?_, ?_⟩
  · unfold sloperef3_Next.f; rw [el0 _ (by omega), Option.bind_some, sloperef3_Next.l0, if_neg (by simp)]
  · unfold sloperef3_Rank.f; rw [el0 _ (by omega), Option.bind_some, sloperef3_Rank.l0, if_neg (by simp)]
  · unfold sloperef3_Select.f; rw [el0 _ (by omega), Option.bind_some]
    by_cases h0 : e < 0
    · rw [if_pos h0]
    · rw [if_neg h0, if_pos (by simp; omega)]
  · unfold bitset_Next.f; rw [rk0, Option.bind_some, se0, Option.bind_some]
  · unfold bitset_Last.f
    by_cases h0 : e < 0
    · rw [if_pos h0]
    · rw [if_neg h0, rk0, Option.bind_some, se0, Option.bind_some]
set_option maxHeartbeats 2000000 in
theorem Places_alike (n : Int) (ws : List Int) (e : Int) (hw : Wds ws) (hs : ws.length ≤ 9223372036854775807) (he0 : -9223372036854775808 ≤ e) (he : e ≤ 9223372036854775807) : ∃ k x1 x2 x3 x4,
    sloperef3_Next.f k n ws e = some (x3, x4) ∧ bitset_Rank.f k n ws e = some x1 ∧ sloperef3_Rank.f k n ws e = some x1 ∧ bitset_Select.f k n ws e = some x2 ∧ sloperef3_Select.f k n ws e = some x2 ∧ bitset_Next.f k n ws e = some x3 ∧ bitset_Last.f k n ws e = some x4 := by
  by_cases hm : MayP n ws
  · obtain ⟨N, rfl⟩ := Int.eq_ofNat_of_zero_le hm.1
    have hN : N ≤ 4096 := by have := hm.2.1; omega
    obtain ⟨KE, xE⟩ := rElements_eq hw hm
    rw [show ((List.range N).filter (hb ws)).map (fun e : Nat => (e : Int)) = els N ws from rfl] at xE
    have hl := (els_says ws N).1
    have hlen : (els N ws).length ≤ 4096 := by rw [hl]; have := rk_le ws N; omega
    have hcnt : cnt ws = (els N ws).length := by rw [hl]; exact rk_all hm
    obtain ⟨K1, x1⟩ := Rank_eq hw hm e
    obtain ⟨K2, x2⟩ := rRank_l0 N ws e hlen _ 0 (Nat.zero_add _)
    obtain ⟨v, v1, K3, x3⟩ := Select_eq hw hm e he
    obtain ⟨K4, x4⟩ := rNext_l0 N ws e hlen _ 0 (Nat.zero_add _)
    have hr := rk_cl_le N ws e
    have hq := rk_cl_le N ws (e + 1)
    obtain ⟨a, a1, K5, x5⟩ := Select_eq hw hm (rk ws (cl N e) : Int) (by omega)
    obtain ⟨b, b1, K6, x6⟩ := Select_eq hw hm ((rk ws (cl N (e + 1)) : Int) - 1) (by omega)
    obtain ⟨K7, x7⟩ := Rank_eq hw hm (wrap64 (mn e 4096 + 1))
    dsimp only at xE x1 x2 x3 x4 x5 x6 x7
    have ha : a = leastAt (els N ws) (rk ws (cl N e)) (els N ws).length := by
      unfold leastAt
      by_cases h : rk ws (cl N e) < (els N ws).length
      · rw [if_pos h]
        obtain ⟨d, _, d2, d3, d4⟩ := (els_says ws N).2 _ h
        exact sel_eq a1 (.inr ⟨d, d3, by rw [d4], d2⟩)
      · rw [if_neg h]
        exact sel_eq a1 (.inl ⟨.inr (by omega), rfl⟩)
    have hb2 : b = mostAt (els N ws) (rk ws (cl N (e + 1))) (els N ws).length := by
      unfold mostAt
      rw [show min (els N ws).length (rk ws (cl N (e + 1))) = rk ws (cl N (e + 1)) by omega]
      by_cases h : 0 < rk ws (cl N (e + 1))
      · rw [if_pos h]
        obtain ⟨d, _, d2, d3, d4⟩ := (els_says ws N).2 (rk ws (cl N (e + 1)) - 1) (by omega)
        exact sel_eq b1 (.inr ⟨d, d3, by rw [d4]; omega, d2⟩)
      · rw [if_neg h]
        exact sel_eq b1 (.inl ⟨.inl (by omega), rfl⟩)
    have l0 : leastAt (els N ws) (rk ws (cl N e)) 0 = -1 := by unfold leastAt; rw [if_neg (by omega)]
    have m0 : mostAt (els N ws) (rk ws (cl N (e + 1))) 0 = -1 := by unfold mostAt; rw [if_neg (by omega)]
    rw [l0, m0] at x4
    rw [← ha, ← hb2] at x4
    refine ⟨KE + K1 + K2 + K3 + K4 + K5 + K6 + K7, _, v, a, b, ?_, x1 _ (by omega), ?_, x3 _ (by omega), ?_, ?_, ?_⟩
    · unfold sloperef3_Next.f; rw [xE _ (by omega), Option.bind_some]; exact x4 _ (by omega)
    · unfold sloperef3_Rank.f; rw [xE _ (by omega), Option.bind_some]
      have := x2 (KE + K1 + K2 + K3 + K4 + K5 + K6 + K7) (by omega)
      rwa [Nat.zero_min] at this
    · unfold sloperef3_Select.f; rw [xE _ (by omega), Option.bind_some]
      by_cases h0 : e < 0
      · rw [if_pos h0, sel_eq v1 (.inl ⟨.inl h0, rfl⟩)]
      · rw [if_neg h0]
        by_cases h1 : e ≥ ((els N ws).length : Int)
        · rw [if_pos h1, sel_eq v1 (.inl ⟨.inr (by omega), rfl⟩)]
        · obtain ⟨i, rfl⟩ := Int.eq_ofNat_of_zero_le (show 0 ≤ e by omega)
          obtain ⟨d, _, d2, d3, d4⟩ := (els_says ws N).2 i (by omega)
          rw [if_neg h1, if_pos (by omega), if_pos (by omega), d2, sel_eq v1 (.inr ⟨d, d3, by rw [d4], rfl⟩)]
    · unfold bitset_Next.f; rw [x1 _ (by omega), Option.bind_some, x5 _ (by omega), Option.bind_some]
    · unfold bitset_Last.f
      by_cases h0 : e < 0
      · rw [if_pos h0]
        have h1 : cl N (e + 1) = 0 := by unfold cl; omega
        rw [hb2, h1]
        unfold mostAt
        rw [if_neg (by simp [rk])]
      · have h1 : cl N (wrap64 (mn e 4096 + 1)) = cl N (e + 1) := by
          have : wrap64 (mn e 4096 + 1) = mn e 4096 + 1 := by unfold wrap64 mn; split <;> omega
          rw [this]; unfold cl mn; split <;> omega
        rw [h1] at x7
        rw [if_neg h0, x7 _ (by omega), Option.bind_some, w64_nat (by omega) (by omega), x6 _ (by omega), Option.bind_some]
  · obtain ⟨k, h1, h2, h3, h4, h5, h6, h7⟩ := Places_none n ws e hw hs hm
    exact ⟨k, 0, -1, -1, -1, h1, h2, h3, h4, h5, h6, h7⟩
end Go.Proofs.YtjmkhdhffmlhiaaDoor.PAll
end
section
namespace Go.Proofs.YtjmkhdhffmlhiaaDoor.PAll
open Go.RowKit Go.Proofs.YtjmkhdhffmlhiaaDoorW.PrintWords Go.Proofs.YtjmkhdhffmlhiaaDoorW.PrintLast Go.Proofs.YtjmkhdhffmlhiaaDoorW.PrintMore
attribute [local go_sem] max2_int min2_int max_two min_two max_three min_three max_four min_four w64_u8 w64_mod256   -- for this text's walks alone
set_option linter.unusedVariables false
set_option linter.unusedSimpArgs false
end Go.Proofs.YtjmkhdhffmlhiaaDoor.PAll
end
section
namespace Go.Proofs.YtjmkhdhffmlhiaaDoor.PAll
set_option linter.unusedVariables false
open Go.RowKit Go.Proofs.YtjmkhdhffmlhiaaDoorW.PrintWords Go.Proofs.YtjmkhdhffmlhiaaDoorW.PrintLast Go.Proofs.YtjmkhdhffmlhiaaDoorW.PrintMore
theorem cut_hm (t e : TypeId) {i : TypeInfo} (ht : Tryd.prog.underlying t = some (.slice e)) (hi : Tryd.prog.info? e = some i) (g n cap m : Nat) (hm : m ≤ cap) :
    ∀ W : World, (Instr.slice t (.slice (some ⟨g, 0, none⟩) n cap) none (some (.int .i64 (m : Int))) (some (.int .i64 (m : Int)))).run Tryd.prog W = .ok (.slice (some ⟨g, 0, none⟩) m m) W := by
  intro W
  have hel : Tryd.prog.elem t = e := by simp [Program.elem, ht]
  have hu : Tryd.prog.underlying t = some (.slice (Tryd.prog.elem t)) := by rw [hel]; exact ht
  rw [run_slice_hm W t (some ⟨g, 0, none⟩) n cap hu .i64 .i64 (m : Int) (m : Int) (by omega) (by omega) (by omega), hel]
  simp [sizeOf, typeInfo, hi, sliced, Result.andThen, Addr.add]
theorem two_blocks {w w1 : World} {o1 o2 : Obj} (hg : ((w.alloc o1).alloc o2).grownBy w1 (Value.slice none 0 0).ownBlock) : w1.heap[w.heap.size]? = some o1 ∧ w1.heap[w.heap.size + 1]? = some o2 := by
  have e1 := blk_alloc (blk_new w o1) o2
  have e2 : ((w.alloc o1).alloc o2).heap[w.heap.size + 1]? = some o2 := by
    have := blk_new (w.alloc o1) o2
    simpa using this
  exact ⟨(hg.block _ (by simp; omega) (by simp [Value.ownBlock])).trans e1, (hg.block _ (by simp) (by simp [Value.ownBlock])).trans e2⟩
def theMark : Int := 8608480567731124087
theorem mark_ys {m : Int} {l ys : List Int} (h : ys = l ++ [m]) (hm : theMark = m) : l ++ [8608480567731124087] = ys := by rw [h, ← hm]; rfl
theorem pos_ys {m : Int} {l ys : List Int} (h : ys = l ++ [m]) : 0 < ys.length := by rw [h]; simp
theorem R_not_blk {W : World} {base g : Nat} {ok : Nat → Prop} {v : Value} {xs : List Int} {cs : Array Value} (h : Kd.R (Kd.int .u64) 87 W base ok v xs) (hb : W.heap[g]? = some (.cells cs 24 (0, 0))) (e : some g = v.ownBlock) : False :=
  Kd.R_ne h hb (by decide) e
set_option maxHeartbeats 4000000 in
set_option maxRecDepth 100000 in
theorem twin_marked (n0 : Int) (A0 : Option Addr) (c0 : Nat) (l0 : List Int) (w : World) (hr0 : Kd.C (Kd.int .u64) w A0 l0.length l0) (hc0 : l0.length ≤ c0) (hn : l0.length * 8 ≤ 140737488351232) :
    Calls Tryd.prog 14 #[.agg #[.int .i64 n0, .slice A0 l0.length c0]] w fun e w' => ∃ g cap : Nat, e = .returned (.agg #[.int .i64 n0, .slice (some ⟨g, 0, none⟩) l0.length cap]) ∧ Kd.R (Kd.int .u64) 87 w' w.heap.size (fun _ => True) (.slice (some ⟨g, 0, none⟩) (l0 ++ [theMark]).length cap) (l0 ++ [theMark]) ∧ Below w.heap.size w w' := by
  have hu26 := Tryd.underlying24
  have HR0 := Aside0.mk hr0
  have HC0 := Aside0.mk hc0
  clear hr0 hc0
  have hn1 : l0.length + 1 ≤ 17592186044416 := by omega
  obtain ⟨ys, hys⟩ : ∃ ys, ys = l0 ++ [theMark] := ⟨_, rfl⟩
  have hyl : l0.length ≤ ys.length := by rw [hys]; simp
  have HY := Aside0.mk hys
  rw [← hys]
  clear hys
  obtain ⟨m, hm⟩ : ∃ m, theMark = m := ⟨_, rfl⟩
  rw [hm] at HY
  go_enter Tryd.func14, Tryd.ntmps14
  go_wp2_with (first
    | ((with_reducible refine gate_builtin (b := .append) (xs := #[.tmp 4, .tmp 6]) rfl ?_); at_builtin
       refine Kd.R_append_rows (Kd.int .u64) (w0 := w) w.heap.size rfl (.tmp 4) (.tmp 6) 22 87 (.int .u64 0) 8 rfl Tryd.underlying22 info87 rfl (by decide) (by omega) (.slice none 0 0) ([] : List Int) l0 _ _ _ (fun _ => True) (fun _ => False) rfl rfl ?aO ?aR (fun _ _ h => h) (fun _ h => h.elim) ?aF ?aB ?aS ?aL ?_
       (case aR => exact Kd.C_alloc (Kd.C_alloc HR0.out _) _)
       (case aB => exact below_alloc (below_alloc (Below.refl _ _) _) _)
       (case aF => exact (fun _ _ => trivial))
       (case aO => exact (Kd.R_nil _ _ _ _ (fun _ => True)))
       (case aS => exact (below_alloc (below_alloc (Below.refl _ _) _) _).size)
       (case aL => simp only [List.length_nil]; omega)
       intro v1 w1 ho hb hg hat
       rw [List.nil_append] at ho
       have HO := Aside0.mk ho
       have HB := Aside0.mk hb
       obtain ⟨b1, b2⟩ := two_blocks hg
       have B1 := Aside0.mk b1
       have B2 := Aside0.mk b2
       clear ho hb hg hat b1 b2)
    | ((with_reducible refine gate_builtin (b := .append) (xs := #[.tmp 8, .tmp 9]) rfl ?_); at_builtin
       refine Kd.R_append (Kd.int .u64) (w0 := w) w.heap.size rfl (.tmp 8) (.tmp 9) 22 87 (.int .u64 0) 8 rfl Tryd.underlying22 info87 rfl (by decide) (by omega) v1 l0 8608480567731124087 [.int .u64 8608480567731124087] (fun _ => True) (fun _ => False) rfl rfl ?aP (fun _ hk => hk.elim) ?aF ?aO ?aB ?aS ?aL ?_
       (case aP => exact rfl)
       (case aF => exact (fun _ _ => trivial))
       (case aO => exact HO.out)
       (case aB => exact HB.out)
       (case aS => exact HB.out.size)
       (case aL => omega)
       intro v2 w2 ho hb hg hat
       have e9 := mark_ys HY.out hm
       rw [e9] at ho
       obtain ⟨g, cap, eg, hgb, hgl, cells, hcells⟩ := Kd.R_form ho (pos_ys HY.out)
       have b1 := (hg.block w.heap.size (blk_lt B1.out) (fun e => R_not_blk HO.out B1.out e)).trans B1.out
       have b2 := (hg.block (w.heap.size + 1) (blk_lt B2.out) (fun e => R_not_blk HO.out B2.out e)).trans B2.out
       subst eg
       obtain ⟨i0, hi0, _, _, _⟩ := info_parts info87
       have hcut := cut_to (P := Tryd.prog) 22 87 .i64 Tryd.underlying22 hi0 (some ⟨g, 0, none⟩) ys.length cap (l0.length : Int) (by omega) (by omega) (Kd.R_reads' ho).2.1
       rw [Int.toNat_natCast] at hcut
       have HO2 := Aside0.mk ho
       have HB2 := Aside0.mk hb
       have BB1 := Aside0.mk b1
       have BB2 := Aside0.mk b2
       have q0 := cell_of_row w2 w.heap.size 0 _ _ _ b1
       have q1 := cell_of_row w2 w.heap.size 1 _ _ _ b1
       have f0 := blk_frozen b2 0
       have f1 := blk_frozen b2 1
       have g0 := cell_of_row w2 (w.heap.size + 1) 0 _ _ _ b2
       have g1 := cell_of_row w2 (w.heap.size + 1) 1 _ _ _ b2
       simp only [List.getElem?_toArray, List.getElem?_cons_zero, List.getElem?_cons_succ] at q0 q1 g0 g1
       clear hi0 ho hb hg hat e9 hcells hgb hgl b1 b2))
  go_still_tail 8, (by kernel_rfl)
  go_wp2
  refine bodyPost_ret (results_cell_row rfl _ _ (w.heap.size + 1) 24 #[.int .i64 n0, .slice (some ⟨g, 0, none⟩) l0.length cap] (0, 0) _ rfl ?_ Tryd.underlying24 rfl (by kernel_rfl)) rfl ?_
  · refine blk_put (cs := #[.int .i64 n0, .slice none 0 0]) ?_ 1 _ rfl
    refine blk_put (cs := #[.int .i64 0, .slice none 0 0]) ?_ 0 _ rfl
    exact BB2.out
  · refine ⟨g, cap, rfl, ?_, ?_⟩
    · exact Kd.R_mono (Kd.R_far (p := ⟨w.heap.size + 1, 1, none⟩) (Kd.R_far (p := ⟨w.heap.size + 1, 0, none⟩) (Kd.R_drew (Kd.R_types HO2.out BB2.out (by decide))) (fun _ hk => hk.2) _) (fun _ hk => hk.2) _) (fun _ hk => trivial)
    · exact ((below_drew HB2.out).setCell (by simp) _).setCell (by simp) _
theorem wmarked_reads {W : World} {base g cap : Nat} {ok : Nat → Prop} {l : List Int} {m : Int} (h : Kd.R (Kd.int .u64) 87 W base ok (.slice (some ⟨g, 0, none⟩) (l ++ [m]).length cap) (l ++ [m])) : Kd.C (Kd.int .u64) W (some ⟨g, 0, none⟩) l.length l := by
  have h2 := Kd.C_take (m := l.length) (Kd.R_reads' h).2.2 (by simp)
  simpa using h2
theorem wmarked_fits {W : World} {base g cap : Nat} {ok : Nat → Prop} {l : List Int} {m : Int} (h : Kd.R (Kd.int .u64) 87 W base ok (.slice (some ⟨g, 0, none⟩) (l ++ [m]).length cap) (l ++ [m])) : l.length ≤ cap := by
  have := (Kd.R_reads' h).2.1
  rw [List.length_append] at this
  simp at this
  omega
set_option maxHeartbeats 4000000 in
set_option maxRecDepth 100000 in
theorem kept_marked (n0 : Int) (g cap : Nat) (l0 : List Int) (A1 : Option Addr) (c1 : Nat) (w : World) (ht : Kd.C (Kd.int .u64) w (some ⟨g, 0, none⟩) (l0 ++ [theMark]).length (l0 ++ [theMark])) (hcap : (l0 ++ [theMark]).length ≤ cap) (hr1 : Kd.C (Kd.int .u64) w A1 l0.length l0) (hc1 : l0.length ≤ c1) :
    Calls Tryd.prog 22 #[.agg #[.int .i64 n0, .slice (some ⟨g, 0, none⟩) l0.length cap], .agg #[.int .i64 n0, .slice A1 l0.length c1]] w fun e w' => e = .returned (.bool true) ∧ Below w.heap.size w w' := by
  have hlen : (l0 ++ [theMark]).length = l0.length + 1 := by simp
  rw [hlen] at ht hcap
  have hb := ht.2.1
  obtain ⟨k, hk⟩ := same_sets n0 l0 (by omega)
  have h1 : Kd.C (Kd.int .u64) w (some ⟨g, 0, none⟩) l0.length l0 := by
    have ht2 := ht
    rw [← hlen] at ht2
    have h := Kd.C_take (m := l0.length) ht2 (by omega)
    simpa using h
  have HT := Aside0.mk h1
  have HM := Aside0.mk ht
  have HR := Aside0.mk hr1
  have HK := Aside0.mk hk
  clear ht h1 hr1 hk hlen
  have HB := Aside0.mk (Below.refl w.heap.size w)
  obtain ⟨i0, hi0, _, _, _⟩ := info_parts info87
  have hcut := cut_hm 22 87 Tryd.underlying22 hi0 g l0.length cap (l0.length + 1) hcap
  simp only [Int.natCast_add, Int.cast_ofNat_Int] at hcut
  clear hi0
  go_enter Tryd.func22, Tryd.ntmps22
  go_upto_region 1 with (first | ((with_reducible refine gate_dst (N := 2) rfl ?_); (try (refine gate_guard (by rfl) ?_; dsimp only)); refine box_event ?hg (N := 2) ?hd (cs := #[.int .i64 n0, .slice (some ⟨g, 0, none⟩) l0.length cap]) (t := 24) ?hr ?_; (case hd => rfl); (case hg => rfl); (case hr => first | (go_simp; done) | (go_simp; rfl)); intro gb101 hg w4 hbox hb; have n0_ := Aside0.mk (below_step (by repeat (first | (with_reducible first | exact HB.out | apply below_alloc | apply pw_below_drewN | apply below_drew1) | exact HB.out)) hb); have n1_ := Aside0.mk (hbox); have n2_ := Aside0.mk ((by rw [hg]; exact (below_size (by repeat (first | (with_reducible first | exact HB.out | apply below_alloc | apply pw_below_drewN | apply below_drew1) | exact HB.out))) : w.heap.size ≤ gb101)); have n3_ := Aside0.mk ((by rw [hg]; exact (below_size (by repeat (first | (with_reducible first | exact HB.out | apply below_alloc | apply pw_below_drewN | apply below_drew1) | exact HB.out))) : w.heap.size ≤ gb101)); clear HB; have HB := n0_; have BK101 := n1_; have GW101 := n2_; have GE101 := n3_; clear n0_ n1_ n2_ n3_; clear hb hbox hg) | ((with_reducible refine gate_dst (N := 3) rfl ?_); (try (refine gate_guard (by rfl) ?_; dsimp only)); refine box_event ?hg (N := 3) ?hd (cs := #[.int .i64 n0, .slice A1 l0.length c1]) (t := 24) ?hr ?_; (case hd => rfl); (case hg => rfl); (case hr => first | (go_simp; done) | (go_simp; rfl)); intro gb102 hg w5 hbox hb; have n0_ := Aside0.mk (blk_below (g := gb101) (o := .cells #[.int .i64 n0, .slice (some ⟨g, 0, none⟩) l0.length cap] 24 (0, 0)) (by (with_reducible repeat (first | refine blk_drewN ?_ _ | refine blk_drew ?_ | refine blk_alloc ?_ _)); exact BK101.out) hb); have n1_ := Aside0.mk (below_step (by repeat (first | (with_reducible first | exact HB.out | apply below_alloc | apply pw_below_drewN | apply below_drew1 | refine below_set ?_ GE101.out) | exact HB.out)) hb); have n2_ := Aside0.mk (hbox); have n3_ := Aside0.mk ((by rw [hg]; exact (below_size (by repeat (first | (with_reducible first | exact HB.out | apply below_alloc | apply pw_below_drewN | apply below_drew1 | refine below_set ?_ GE101.out) | exact HB.out))) : w.heap.size ≤ gb102)); have n4_ := Aside0.mk ((by rw [hg]; exact (below_size (by repeat (first | (with_reducible first | exact HB.out | apply below_alloc | apply pw_below_drewN | apply below_drew1 | refine below_set ?_ GE101.out) | exact HB.out))) : w.heap.size ≤ gb102)); have n5_ := Aside0.mk ((by rw [hg]; exact Nat.ne_of_lt (blk_lt (g := gb101) (o := .cells #[.int .i64 n0, .slice (some ⟨g, 0, none⟩) l0.length cap] 24 (0, 0)) (by (with_reducible repeat (first | refine blk_drewN ?_ _ | refine blk_drew ?_ | refine blk_alloc ?_ _)); exact BK101.out)) : gb101 ≠ gb102)); have n6_ := Aside0.mk ((by rw [hg]; exact Nat.ne_of_gt (blk_lt (g := gb101) (o := .cells #[.int .i64 n0, .slice (some ⟨g, 0, none⟩) l0.length cap] 24 (0, 0)) (by (with_reducible repeat (first | refine blk_drewN ?_ _ | refine blk_drew ?_ | refine blk_alloc ?_ _)); exact BK101.out)) : gb102 ≠ gb101)); clear BK101; clear HB; have BK101 := n0_; have HB := n1_; have BK102 := n2_; have GW102 := n3_; have GE102 := n4_; have NB101_102 := n5_; have NB102_101 := n6_; clear n0_ n1_ n2_ n3_ n4_ n5_ n6_; clear hb hbox hg))
  repeat (go_quiet (first | ((with_reducible refine gate_dst (N := 2) rfl ?_); (try (refine gate_guard (by rfl) ?_; dsimp only)); refine box_event ?hg (N := 2) ?hd (cs := #[.int .i64 n0, .slice (some ⟨g, 0, none⟩) l0.length cap]) (t := 24) ?hr ?_; (case hd => rfl); (case hg => rfl); (case hr => first | (go_simp; done) | (go_simp; rfl)); intro gb101 hg w4 hbox hb; have n0_ := Aside0.mk (below_step (by repeat (first | (with_reducible first | exact HB.out | apply below_alloc | apply pw_below_drewN | apply below_drew1) | exact HB.out)) hb); have n1_ := Aside0.mk (hbox); have n2_ := Aside0.mk ((by rw [hg]; exact (below_size (by repeat (first | (with_reducible first | exact HB.out | apply below_alloc | apply pw_below_drewN | apply below_drew1) | exact HB.out))) : w.heap.size ≤ gb101)); have n3_ := Aside0.mk ((by rw [hg]; exact (below_size (by repeat (first | (with_reducible first | exact HB.out | apply below_alloc | apply pw_below_drewN | apply below_drew1) | exact HB.out))) : w.heap.size ≤ gb101)); clear HB; have HB := n0_; have BK101 := n1_; have GW101 := n2_; have GE101 := n3_; clear n0_ n1_ n2_ n3_; clear hb hbox hg) | ((with_reducible refine gate_dst (N := 3) rfl ?_); (try (refine gate_guard (by rfl) ?_; dsimp only)); refine box_event ?hg (N := 3) ?hd (cs := #[.int .i64 n0, .slice A1 l0.length c1]) (t := 24) ?hr ?_; (case hd => rfl); (case hg => rfl); (case hr => first | (go_simp; done) | (go_simp; rfl)); intro gb102 hg w5 hbox hb; have n0_ := Aside0.mk (blk_below (g := gb101) (o := .cells #[.int .i64 n0, .slice (some ⟨g, 0, none⟩) l0.length cap] 24 (0, 0)) (by (with_reducible repeat (first | refine blk_drewN ?_ _ | refine blk_drew ?_ | refine blk_alloc ?_ _)); exact BK101.out) hb); have n1_ := Aside0.mk (below_step (by repeat (first | (with_reducible first | exact HB.out | apply below_alloc | apply pw_below_drewN | apply below_drew1 | refine below_set ?_ GE101.out) | exact HB.out)) hb); have n2_ := Aside0.mk (hbox); have n3_ := Aside0.mk ((by rw [hg]; exact (below_size (by repeat (first | (with_reducible first | exact HB.out | apply below_alloc | apply pw_below_drewN | apply below_drew1 | refine below_set ?_ GE101.out) | exact HB.out))) : w.heap.size ≤ gb102)); have n4_ := Aside0.mk ((by rw [hg]; exact (below_size (by repeat (first | (with_reducible first | exact HB.out | apply below_alloc | apply pw_below_drewN | apply below_drew1 | refine below_set ?_ GE101.out) | exact HB.out))) : w.heap.size ≤ gb102)); have n5_ := Aside0.mk ((by rw [hg]; exact Nat.ne_of_lt (blk_lt (g := gb101) (o := .cells #[.int .i64 n0, .slice (some ⟨g, 0, none⟩) l0.length cap] 24 (0, 0)) (by (with_reducible repeat (first | refine blk_drewN ?_ _ | refine blk_drew ?_ | refine blk_alloc ?_ _)); exact BK101.out)) : gb101 ≠ gb102)); have n6_ := Aside0.mk ((by rw [hg]; exact Nat.ne_of_gt (blk_lt (g := gb101) (o := .cells #[.int .i64 n0, .slice (some ⟨g, 0, none⟩) l0.length cap] 24 (0, 0)) (by (with_reducible repeat (first | refine blk_drewN ?_ _ | refine blk_drew ?_ | refine blk_alloc ?_ _)); exact BK101.out)) : gb102 ≠ gb101)); clear BK101; clear HB; have BK101 := n0_; have HB := n1_; have BK102 := n2_; have GW102 := n3_; have GE102 := n4_; have NB101_102 := n5_; have NB102_101 := n6_; clear n0_ n1_ n2_ n3_ n4_ n5_ n6_; clear hb hbox hg)); go_upto_region 1 with (first | ((with_reducible refine gate_dst (N := 2) rfl ?_); (try (refine gate_guard (by rfl) ?_; dsimp only)); refine box_event ?hg (N := 2) ?hd (cs := #[.int .i64 n0, .slice (some ⟨g, 0, none⟩) l0.length cap]) (t := 24) ?hr ?_; (case hd => rfl); (case hg => rfl); (case hr => first | (go_simp; done) | (go_simp; rfl)); intro gb101 hg w4 hbox hb; have n0_ := Aside0.mk (below_step (by repeat (first | (with_reducible first | exact HB.out | apply below_alloc | apply pw_below_drewN | apply below_drew1) | exact HB.out)) hb); have n1_ := Aside0.mk (hbox); have n2_ := Aside0.mk ((by rw [hg]; exact (below_size (by repeat (first | (with_reducible first | exact HB.out | apply below_alloc | apply pw_below_drewN | apply below_drew1) | exact HB.out))) : w.heap.size ≤ gb101)); have n3_ := Aside0.mk ((by rw [hg]; exact (below_size (by repeat (first | (with_reducible first | exact HB.out | apply below_alloc | apply pw_below_drewN | apply below_drew1) | exact HB.out))) : w.heap.size ≤ gb101)); clear HB; have HB := n0_; have BK101 := n1_; have GW101 := n2_; have GE101 := n3_; clear n0_ n1_ n2_ n3_; clear hb hbox hg) | ((with_reducible refine gate_dst (N := 3) rfl ?_); (try (refine gate_guard (by rfl) ?_; dsimp only)); refine box_event ?hg (N := 3) ?hd (cs := #[.int .i64 n0, .slice A1 l0.length c1]) (t := 24) ?hr ?_; (case hd => rfl); (case hg => rfl); (case hr => first | (go_simp; done) | (go_simp; rfl)); intro gb102 hg w5 hbox hb; have n0_ := Aside0.mk (blk_below (g := gb101) (o := .cells #[.int .i64 n0, .slice (some ⟨g, 0, none⟩) l0.length cap] 24 (0, 0)) (by (with_reducible repeat (first | refine blk_drewN ?_ _ | refine blk_drew ?_ | refine blk_alloc ?_ _)); exact BK101.out) hb); have n1_ := Aside0.mk (below_step (by repeat (first | (with_reducible first | exact HB.out | apply below_alloc | apply pw_below_drewN | apply below_drew1 | refine below_set ?_ GE101.out) | exact HB.out)) hb); have n2_ := Aside0.mk (hbox); have n3_ := Aside0.mk ((by rw [hg]; exact (below_size (by repeat (first | (with_reducible first | exact HB.out | apply below_alloc | apply pw_below_drewN | apply below_drew1 | refine below_set ?_ GE101.out) | exact HB.out))) : w.heap.size ≤ gb102)); have n4_ := Aside0.mk ((by rw [hg]; exact (below_size (by repeat (first | (with_reducible first | exact HB.out | apply below_alloc | apply pw_below_drewN | apply below_drew1 | refine below_set ?_ GE101.out) | exact HB.out))) : w.heap.size ≤ gb102)); have n5_ := Aside0.mk ((by rw [hg]; exact Nat.ne_of_lt (blk_lt (g := gb101) (o := .cells #[.int .i64 n0, .slice (some ⟨g, 0, none⟩) l0.length cap] 24 (0, 0)) (by (with_reducible repeat (first | refine blk_drewN ?_ _ | refine blk_drew ?_ | refine blk_alloc ?_ _)); exact BK101.out)) : gb101 ≠ gb102)); have n6_ := Aside0.mk ((by rw [hg]; exact Nat.ne_of_gt (blk_lt (g := gb101) (o := .cells #[.int .i64 n0, .slice (some ⟨g, 0, none⟩) l0.length cap] 24 (0, 0)) (by (with_reducible repeat (first | refine blk_drewN ?_ _ | refine blk_drew ?_ | refine blk_alloc ?_ _)); exact BK101.out)) : gb102 ≠ gb101)); clear BK101; clear HB; have BK101 := n0_; have HB := n1_; have BK102 := n2_; have GW102 := n3_; have GE102 := n4_; have NB101_102 := n5_; have NB102_101 := n6_; clear n0_ n1_ n2_ n3_ n4_ n5_ n6_; clear hb hbox hg)))
  (try simp only [Act.put, List.setIfInBounds_toArray, List.set_cons_zero, List.set_cons_succ])
  have hcz0_0 : w5.cell? ⟨gb101, 0, none⟩ = some (.int .i64 n0) := (blk_cell BK101.out 0).trans rfl
  have hcz0_1 : w5.cell? ⟨gb101, 1, none⟩ = some (.slice (some ⟨g, 0, none⟩) l0.length cap) := (blk_cell BK101.out 1).trans rfl
  have hfz0_0 := blk_frozen BK101.out 0
  have hfz0_1 := blk_frozen BK101.out 1
  have hcz1_0 : w5.cell? ⟨gb102, 0, none⟩ = some (.int .i64 n0) := (blk_cell BK102.out 0).trans rfl
  have hcz1_1 : w5.cell? ⟨gb102, 1, none⟩ = some (.slice A1 l0.length c1) := (blk_cell BK102.out 1).trans rfl
  have hfz1_0 := blk_frozen BK102.out 0
  have hfz1_1 := blk_frozen BK102.out 1
  go_wp2_with (first
    | ((with_reducible refine gate_callee (f := 20) rfl ?_); refine goesL_ (some 11) rfl rfl Tryd.func20 (by kernel_rfl) rfl #[.agg #[.int .i64 n0, .slice (some ⟨g, 0, none⟩) l0.length cap], .agg #[.int .i64 n0, .slice A1 l0.length c1]] rfl (by (try simp only [List.map_toArray, List.map_cons, List.map_nil]); first | done | rfl) ?_
       (with_reducible refine (slopelaw3_same.calls k n0 _ _ l0 n0 _ _ l0 true _ (Kd.C_below HT.out HB.out) (by omega) (Kd.C_below HR.out HB.out) hc1 HK.out).mono ?_)
       rintro e w' ⟨rfl, hbw⟩
       refine ⟨_, rfl, ?_⟩
       have HB2 := Aside0.mk (below_step HB.out hbw)
       have kb1 := blk_below (g := gb101) BK101.out hbw
       have hcy_1 : w'.cell? ⟨gb101, 1, none⟩ = some (.slice (some ⟨g, 0, none⟩) l0.length cap) := (blk_cell kb1 1).trans rfl
       have hfy_1 := blk_frozen kb1 1
       obtain ⟨ad, ea, hx⟩ := Kd.at_int (Kd.C_below HM.out HB2.out) (l0.length : Int) (by omega) (by omega)
       cases ea
       rw [Int.toNat_natCast, add_plain] at hx
       have hrd : rd (l0 ++ [theMark]) (l0.length : Int) = 8608480567731124087 := by simp [rd, List.getD_eq_getElem?_getD, theMark]
       rw [hrd] at hx
       clear kb1 hbw hrd))
  go_ret
  exact ⟨rfl, HB2.out⟩
end Go.Proofs.YtjmkhdhffmlhiaaDoor.PAll
end
section
namespace Go.Proofs.YtjmkhdhffmlhiaaDoor.PAll
open Go.RowKit Go.Proofs.YtjmkhdhffmlhiaaDoorW.PrintWords Go.Proofs.YtjmkhdhffmlhiaaDoorW.PrintLast Go.Proofs.YtjmkhdhffmlhiaaDoorW.PrintMore
set_option maxHeartbeats 8000000 in
set_option maxRecDepth 100000 in
theorem BitPlaces_walk (n0 : Int) (A0 : Option Addr) (c0 : Nat) (l0 : List Int) (e0 : Int) (w : World) (hr0 : Kd.C (Kd.int .u64) w A0 l0.length l0) (hc_HC : l0.length ≤ c0) (hn_s : l0.length * 8 ≤ 140737488351232) (hG : Tz w)
    (k : Nat) (x1 x2 x3 x4 : Int) (hN : sloperef3_Next.f k n0 l0 e0 = some (x3, x4)) (hR : bitset_Rank.f k n0 l0 e0 = some x1) (hR2 : sloperef3_Rank.f k n0 l0 e0 = some x1) (hS : bitset_Select.f k n0 l0 e0 = some x2) (hS2 : sloperef3_Select.f k n0 l0 e0 = some x2) (hN1 : bitset_Next.f k n0 l0 e0 = some x3) (hN2 : bitset_Last.f k n0 l0 e0 = some x4) :
    Calls Tryd.prog 4 #[.agg #[.int .i64 n0, .slice A0 l0.length c0], .int .i64 e0] w fun e w' => e = .returned (.bool true) ∧ Below w.heap.size w w' := by
  have hu26 := Tryd.underlying24
  have HC := Aside0.mk hr0
  have HG := Aside0.mk hG
  have HN := Aside0.mk hN
  have HR := Aside0.mk hR
  have HR2 := Aside0.mk hR2
  have HS := Aside0.mk hS
  have HS2 := Aside0.mk hS2
  have HN1 := Aside0.mk hN1
  have HN2 := Aside0.mk hN2
  have HB := Aside0.mk (Below.refl w.heap.size w)
  clear hr0 hG hN hR hR2 hS hS2 hN1 hN2
  go_enter Tryd.func4, Tryd.ntmps4
  go_wp2_with (first
    | ((with_reducible refine gate_callee (f := 14) rfl ?_)
       refine goesL_ (some 9) rfl rfl Tryd.func14 (by kernel_rfl) rfl #[.agg #[.int .i64 n0, .slice A0 l0.length c0]] rfl (by (try simp only [List.map_toArray, List.map_cons, List.map_nil]); first | done | rfl) ?_
       (with_reducible refine (twin_marked n0 A0 c0 l0 _ ?s1 hc_HC hn_s).mono ?_)
       (case s1 => exact (by repeat (first | exact HC.out | (with_reducible refine Kd.C_alloc ?_ _) | (with_reducible refine Kd.C_drewN ?_ _) | (with_reducible refine Kd.C_drew ?_))))
       rintro e w1 ⟨gu, capu, rfl, ho, hb⟩
       refine ⟨_, rfl, ?_⟩
       have n0_ : Aside0 (Below w.heap.size w w1) := ⟨below_step (by repeat (first | (with_reducible first | exact HB.out | apply below_alloc | apply pw_below_drewN | apply below_drew1) | exact HB.out)) hb⟩
       have n1_ : Aside0 (Kd.C (Kd.int .u64) w1 A0 l0.length l0) := ⟨Kd.C_below (by repeat (first | exact HC.out | (with_reducible refine Kd.C_alloc ?_ _) | (with_reducible refine Kd.C_drewN ?_ _) | (with_reducible refine Kd.C_drew ?_))) hb⟩
       have n2_ : Aside0 (w1.heap[w.heap.size]? = some (.cells #[.int .i64 n0, .slice A0 l0.length c0] 24 (0, 0))) := ⟨blk_below (by (with_reducible repeat (first | exact blk_new _ _ | refine blk_drewN ?_ _ | refine blk_drew ?_ | refine blk_alloc ?_ _))) hb⟩
       clear HB HC
       have HB := n0_
       have HC := n1_
       have Ks := n2_
       clear n0_ n1_ n2_
       have HTu : Aside0 (Kd.R (Kd.int .u64) 87 w1 (w.alloc (.cells #[.int .i64 n0, .slice A0 l0.length c0] 24 (0, 0))).heap.size (fun _ => True) (.slice (some ⟨gu, 0, none⟩) (l0 ++ [theMark]).length capu) (l0 ++ [theMark])) := ⟨ho⟩
       have qKs0 := (blk_cell (blk_alloc Ks.out (.cells #[.int .i64 n0, .slice (some ⟨gu, 0, none⟩) l0.length capu] 24 (0, 0))) 0).trans rfl
       have zqKs0 := blk_frozen (blk_alloc Ks.out (.cells #[.int .i64 n0, .slice (some ⟨gu, 0, none⟩) l0.length capu] 24 (0, 0))) 0
       have qKs1 := (blk_cell (blk_alloc Ks.out (.cells #[.int .i64 n0, .slice (some ⟨gu, 0, none⟩) l0.length capu] 24 (0, 0))) 1).trans rfl
       have zqKs1 := blk_frozen (blk_alloc Ks.out (.cells #[.int .i64 n0, .slice (some ⟨gu, 0, none⟩) l0.length capu] 24 (0, 0))) 1
       clear hb ho)
    | ((with_reducible refine gate_callee (f := 24) rfl ?_)
       refine goesL_ (some 13) rfl rfl Tryd.func24 (by kernel_rfl) rfl #[.agg #[.int .i64 n0, .slice A0 l0.length c0], .int .i64 e0] rfl (by (try simp only [List.map_toArray, List.map_cons, List.map_nil]); first | done | rfl) ?_
       (with_reducible refine (sloperef3_Next.calls k n0 _ _ l0 e0 x3 x4 _ ?s1a ?s1b HN.out).mono ?_)
       (case s1a => exact (by repeat (first | exact HC.out | (with_reducible refine Kd.C_alloc ?_ _) | (with_reducible refine Kd.C_drewN ?_ _) | (with_reducible refine Kd.C_drew ?_))))
       (case s1b => exact (hc_HC))
       rintro e w2 ⟨rfl, hb⟩
       refine ⟨_, rfl, ?_⟩
       have n0_ : Aside0 (Below w.heap.size w w2) := ⟨below_step (by repeat (first | (with_reducible first | exact HB.out | apply below_alloc | apply pw_below_drewN | apply below_drew1) | exact HB.out)) hb⟩
       have n1_ : Aside0 (Kd.C (Kd.int .u64) w2 A0 l0.length l0) := ⟨Kd.C_below (by repeat (first | exact HC.out | (with_reducible refine Kd.C_alloc ?_ _) | (with_reducible refine Kd.C_drewN ?_ _) | (with_reducible refine Kd.C_drew ?_))) hb⟩
       have n2_ : Aside0 (w2.heap[w.heap.size]? = some (.cells #[.int .i64 n0, .slice A0 l0.length c0] 24 (0, 0))) := ⟨blk_below (by (with_reducible repeat (first | refine blk_drewN ?_ _ | refine blk_drew ?_ | refine blk_alloc ?_ _)); exact Ks.out) hb⟩
       have n3_ : Aside0 (Kd.R (Kd.int .u64) 87 w2 (w.alloc (.cells #[.int .i64 n0, .slice A0 l0.length c0] 24 (0, 0))).heap.size (fun _ => True) (.slice (some ⟨gu, 0, none⟩) (l0 ++ [theMark]).length capu) (l0 ++ [theMark])) := ⟨Kd.R_below (by (with_reducible repeat (first | apply Kd.R_alloc | apply Kd.R_drewN | apply Kd.R_drew)); exact HTu.out) hb⟩
       have n4_ : Aside0 (w2.heap[w1.heap.size]? = some (.cells #[.int .i64 n0, .slice (some ⟨gu, 0, none⟩) l0.length capu] 24 (0, 0))) := ⟨blk_below (by (with_reducible repeat (first | exact blk_new _ _ | refine blk_drewN ?_ _ | refine blk_drew ?_ | refine blk_alloc ?_ _))) hb⟩
       clear HB HC Ks HTu
       have HB := n0_
       have HC := n1_
       have Ks := n2_
       have HTu := n3_
       have Ku := n4_
       clear n0_ n1_ n2_ n3_ n4_
       clear qKs0 zqKs0 qKs1 zqKs1
       clear hb))
  go_region_held3 (fun w' => w'.cell? ⟨w1.heap.size, 0, none⟩ = some (.int .i64 n0) ∧ w'.cell? ⟨w1.heap.size, 1, none⟩ = some (.slice (some ⟨gu, 0, none⟩) l0.length capu) ∧ w'.cell? ⟨w.heap.size, 0, none⟩ = some (.int .i64 n0) ∧ w'.cell? ⟨w.heap.size, 1, none⟩ = some (.slice A0 l0.length c0))
    (first | exact ⟨(blk_cell Ku.out 0).trans rfl, (blk_cell Ku.out 1).trans rfl, (blk_cell Ks.out 0).trans rfl, (blk_cell Ks.out 1).trans rfl⟩ | exact ⟨(blk_cell (blk_drew Ku.out) 0).trans rfl, (blk_cell (blk_drew Ku.out) 1).trans rfl, (blk_cell (blk_drew Ks.out) 0).trans rfl, (blk_cell (blk_drew Ks.out) 1).trans rfl⟩ | exact ⟨(blk_cell (blk_drewN Ku.out _) 0).trans rfl, (blk_cell (blk_drewN Ku.out _) 1).trans rfl, (blk_cell (blk_drewN Ks.out _) 0).trans rfl, (blk_cell (blk_drewN Ks.out _) 1).trans rfl⟩ | go_keep)
    (first
    | (go_at_call 25
       (with_reducible refine (bitset_Rank.calls k n0 _ _ l0 e0 x1 _ ?s1a ?s1b HR.out).mono ?_)
       (case s1a => exact (wmarked_reads (by (with_reducible repeat (first | apply Kd.R_alloc | apply Kd.R_drewN | apply Kd.R_drew)); exact HTu.out)))
       (case s1b => exact (wmarked_fits HTu.out))
       rintro e w3 ⟨rfl, hb⟩
       have n0_ : Aside0 (Below w.heap.size w w3) := ⟨below_step (by repeat (first | (with_reducible first | exact HB.out | apply below_alloc | apply pw_below_drewN | apply below_drew1) | exact HB.out)) hb⟩
       have n1_ : Aside0 (Kd.C (Kd.int .u64) w3 A0 l0.length l0) := ⟨Kd.C_below (by repeat (first | exact HC.out | (with_reducible refine Kd.C_alloc ?_ _) | (with_reducible refine Kd.C_drewN ?_ _) | (with_reducible refine Kd.C_drew ?_))) hb⟩
       have n2_ : Aside0 (w3.heap[w.heap.size]? = some (.cells #[.int .i64 n0, .slice A0 l0.length c0] 24 (0, 0))) := ⟨blk_below (by (with_reducible repeat (first | refine blk_drewN ?_ _ | refine blk_drew ?_ | refine blk_alloc ?_ _)); exact Ks.out) hb⟩
       have n3_ : Aside0 (Kd.R (Kd.int .u64) 87 w3 (w.alloc (.cells #[.int .i64 n0, .slice A0 l0.length c0] 24 (0, 0))).heap.size (fun _ => True) (.slice (some ⟨gu, 0, none⟩) (l0 ++ [theMark]).length capu) (l0 ++ [theMark])) := ⟨Kd.R_below (by (with_reducible repeat (first | apply Kd.R_alloc | apply Kd.R_drewN | apply Kd.R_drew)); exact HTu.out) hb⟩
       have n4_ : Aside0 (w3.heap[w1.heap.size]? = some (.cells #[.int .i64 n0, .slice (some ⟨gu, 0, none⟩) l0.length capu] 24 (0, 0))) := ⟨blk_below (by (with_reducible repeat (first | refine blk_drewN ?_ _ | refine blk_drew ?_ | refine blk_alloc ?_ _)); exact Ku.out) hb⟩
       clear HB HC Ks HTu Ku
       have HB := n0_
       have HC := n1_
       have Ks := n2_
       have HTu := n3_
       have Ku := n4_
       clear n0_ n1_ n2_ n3_ n4_
       clear hb)
    | (go_at_call 26
       (with_reducible refine (sloperef3_Rank.calls k n0 _ _ l0 e0 x1 _ ?s1a ?s1b HR2.out).mono ?_)
       (case s1a => exact (by repeat (first | exact HC.out | (with_reducible refine Kd.C_alloc ?_ _) | (with_reducible refine Kd.C_drewN ?_ _) | (with_reducible refine Kd.C_drew ?_))))
       (case s1b => exact (hc_HC))
       rintro e w4 ⟨rfl, hb⟩
       have n0_ : Aside0 (Below w.heap.size w w4) := ⟨below_step (by repeat (first | (with_reducible first | exact HB.out | apply below_alloc | apply pw_below_drewN | apply below_drew1) | exact HB.out)) hb⟩
       have n1_ : Aside0 (Kd.C (Kd.int .u64) w4 A0 l0.length l0) := ⟨Kd.C_below (by repeat (first | exact HC.out | (with_reducible refine Kd.C_alloc ?_ _) | (with_reducible refine Kd.C_drewN ?_ _) | (with_reducible refine Kd.C_drew ?_))) hb⟩
       have n2_ : Aside0 (w4.heap[w.heap.size]? = some (.cells #[.int .i64 n0, .slice A0 l0.length c0] 24 (0, 0))) := ⟨blk_below (by (with_reducible repeat (first | refine blk_drewN ?_ _ | refine blk_drew ?_ | refine blk_alloc ?_ _)); exact Ks.out) hb⟩
       have n3_ : Aside0 (Kd.R (Kd.int .u64) 87 w4 (w.alloc (.cells #[.int .i64 n0, .slice A0 l0.length c0] 24 (0, 0))).heap.size (fun _ => True) (.slice (some ⟨gu, 0, none⟩) (l0 ++ [theMark]).length capu) (l0 ++ [theMark])) := ⟨Kd.R_below (by (with_reducible repeat (first | apply Kd.R_alloc | apply Kd.R_drewN | apply Kd.R_drew)); exact HTu.out) hb⟩
       have n4_ : Aside0 (w4.heap[w1.heap.size]? = some (.cells #[.int .i64 n0, .slice (some ⟨gu, 0, none⟩) l0.length capu] 24 (0, 0))) := ⟨blk_below (by (with_reducible repeat (first | refine blk_drewN ?_ _ | refine blk_drew ?_ | refine blk_alloc ?_ _)); exact Ku.out) hb⟩
       clear HB HC Ks HTu Ku
       have HB := n0_
       have HC := n1_
       have Ks := n2_
       have HTu := n3_
       have Ku := n4_
       clear n0_ n1_ n2_ n3_ n4_
       clear hb)
    | (go_at_call 27
       (with_reducible refine (bitset_Select.calls k n0 _ _ l0 e0 x2 _ ?s1a ?s1b ?sg HS.out).mono ?_)
       (case s1a => exact (wmarked_reads (by (with_reducible repeat (first | apply Kd.R_alloc | apply Kd.R_drewN | apply Kd.R_drew)); exact HTu.out)))
       (case s1b => exact (wmarked_fits HTu.out))
       (case sg => exact (tz_at HG.out (by repeat (first | (with_reducible first | exact HB.out | apply below_alloc | apply pw_below_drewN | apply below_drew1) | exact HB.out))))
       rintro e w5 ⟨rfl, hb⟩
       have n0_ : Aside0 (Below w.heap.size w w5) := ⟨below_step (by repeat (first | (with_reducible first | exact HB.out | apply below_alloc | apply pw_below_drewN | apply below_drew1) | exact HB.out)) hb⟩
       have n1_ : Aside0 (Kd.C (Kd.int .u64) w5 A0 l0.length l0) := ⟨Kd.C_below (by repeat (first | exact HC.out | (with_reducible refine Kd.C_alloc ?_ _) | (with_reducible refine Kd.C_drewN ?_ _) | (with_reducible refine Kd.C_drew ?_))) hb⟩
       have n2_ : Aside0 (w5.heap[w.heap.size]? = some (.cells #[.int .i64 n0, .slice A0 l0.length c0] 24 (0, 0))) := ⟨blk_below (by (with_reducible repeat (first | refine blk_drewN ?_ _ | refine blk_drew ?_ | refine blk_alloc ?_ _)); exact Ks.out) hb⟩
       have n3_ : Aside0 (Kd.R (Kd.int .u64) 87 w5 (w.alloc (.cells #[.int .i64 n0, .slice A0 l0.length c0] 24 (0, 0))).heap.size (fun _ => True) (.slice (some ⟨gu, 0, none⟩) (l0 ++ [theMark]).length capu) (l0 ++ [theMark])) := ⟨Kd.R_below (by (with_reducible repeat (first | apply Kd.R_alloc | apply Kd.R_drewN | apply Kd.R_drew)); exact HTu.out) hb⟩
       have n4_ : Aside0 (w5.heap[w1.heap.size]? = some (.cells #[.int .i64 n0, .slice (some ⟨gu, 0, none⟩) l0.length capu] 24 (0, 0))) := ⟨blk_below (by (with_reducible repeat (first | refine blk_drewN ?_ _ | refine blk_drew ?_ | refine blk_alloc ?_ _)); exact Ku.out) hb⟩
       clear HB HC Ks HTu Ku
       have HB := n0_
       have HC := n1_
       have Ks := n2_
       have HTu := n3_
       have Ku := n4_
       clear n0_ n1_ n2_ n3_ n4_
       clear hb)
    | (go_at_call 28
       (with_reducible refine (sloperef3_Select.calls k n0 _ _ l0 e0 x2 _ ?s1a ?s1b HS2.out).mono ?_)
       (case s1a => exact (by repeat (first | exact HC.out | (with_reducible refine Kd.C_alloc ?_ _) | (with_reducible refine Kd.C_drewN ?_ _) | (with_reducible refine Kd.C_drew ?_))))
       (case s1b => exact (hc_HC))
       rintro e w6 ⟨rfl, hb⟩
       have n0_ : Aside0 (Below w.heap.size w w6) := ⟨below_step (by repeat (first | (with_reducible first | exact HB.out | apply below_alloc | apply pw_below_drewN | apply below_drew1) | exact HB.out)) hb⟩
       have n1_ : Aside0 (Kd.C (Kd.int .u64) w6 A0 l0.length l0) := ⟨Kd.C_below (by repeat (first | exact HC.out | (with_reducible refine Kd.C_alloc ?_ _) | (with_reducible refine Kd.C_drewN ?_ _) | (with_reducible refine Kd.C_drew ?_))) hb⟩
       have n2_ : Aside0 (w6.heap[w.heap.size]? = some (.cells #[.int .i64 n0, .slice A0 l0.length c0] 24 (0, 0))) := ⟨blk_below (by (with_reducible repeat (first | refine blk_drewN ?_ _ | refine blk_drew ?_ | refine blk_alloc ?_ _)); exact Ks.out) hb⟩
       have n3_ : Aside0 (Kd.R (Kd.int .u64) 87 w6 (w.alloc (.cells #[.int .i64 n0, .slice A0 l0.length c0] 24 (0, 0))).heap.size (fun _ => True) (.slice (some ⟨gu, 0, none⟩) (l0 ++ [theMark]).length capu) (l0 ++ [theMark])) := ⟨Kd.R_below (by (with_reducible repeat (first | apply Kd.R_alloc | apply Kd.R_drewN | apply Kd.R_drew)); exact HTu.out) hb⟩
       have n4_ : Aside0 (w6.heap[w1.heap.size]? = some (.cells #[.int .i64 n0, .slice (some ⟨gu, 0, none⟩) l0.length capu] 24 (0, 0))) := ⟨blk_below (by (with_reducible repeat (first | refine blk_drewN ?_ _ | refine blk_drew ?_ | refine blk_alloc ?_ _)); exact Ku.out) hb⟩
       clear HB HC Ks HTu Ku
       have HB := n0_
       have HC := n1_
       have Ks := n2_
       have HTu := n3_
       have Ku := n4_
       clear n0_ n1_ n2_ n3_ n4_
       clear hb)
    | (go_at_call 29
       (with_reducible refine (bitset_Next.calls k n0 _ _ l0 e0 x3 _ ?s1a ?s1b ?sg HN1.out).mono ?_)
       (case s1a => exact (wmarked_reads (by (with_reducible repeat (first | apply Kd.R_alloc | apply Kd.R_drewN | apply Kd.R_drew)); exact HTu.out)))
       (case s1b => exact (wmarked_fits HTu.out))
       (case sg => exact (tz_at HG.out (by repeat (first | (with_reducible first | exact HB.out | apply below_alloc | apply pw_below_drewN | apply below_drew1) | exact HB.out))))
       rintro e w7 ⟨rfl, hb⟩
       have n0_ : Aside0 (Below w.heap.size w w7) := ⟨below_step (by repeat (first | (with_reducible first | exact HB.out | apply below_alloc | apply pw_below_drewN | apply below_drew1) | exact HB.out)) hb⟩
       have n1_ : Aside0 (Kd.C (Kd.int .u64) w7 A0 l0.length l0) := ⟨Kd.C_below (by repeat (first | exact HC.out | (with_reducible refine Kd.C_alloc ?_ _) | (with_reducible refine Kd.C_drewN ?_ _) | (with_reducible refine Kd.C_drew ?_))) hb⟩
       have n2_ : Aside0 (w7.heap[w.heap.size]? = some (.cells #[.int .i64 n0, .slice A0 l0.length c0] 24 (0, 0))) := ⟨blk_below (by (with_reducible repeat (first | refine blk_drewN ?_ _ | refine blk_drew ?_ | refine blk_alloc ?_ _)); exact Ks.out) hb⟩
       have n3_ : Aside0 (Kd.R (Kd.int .u64) 87 w7 (w.alloc (.cells #[.int .i64 n0, .slice A0 l0.length c0] 24 (0, 0))).heap.size (fun _ => True) (.slice (some ⟨gu, 0, none⟩) (l0 ++ [theMark]).length capu) (l0 ++ [theMark])) := ⟨Kd.R_below (by (with_reducible repeat (first | apply Kd.R_alloc | apply Kd.R_drewN | apply Kd.R_drew)); exact HTu.out) hb⟩
       have n4_ : Aside0 (w7.heap[w1.heap.size]? = some (.cells #[.int .i64 n0, .slice (some ⟨gu, 0, none⟩) l0.length capu] 24 (0, 0))) := ⟨blk_below (by (with_reducible repeat (first | refine blk_drewN ?_ _ | refine blk_drew ?_ | refine blk_alloc ?_ _)); exact Ku.out) hb⟩
       clear HB HC Ks HTu Ku
       have HB := n0_
       have HC := n1_
       have Ks := n2_
       have HTu := n3_
       have Ku := n4_
       clear n0_ n1_ n2_ n3_ n4_
       clear hb)
    | (go_at_call 30
       (with_reducible refine (bitset_Last.calls k n0 _ _ l0 e0 x4 _ ?s1a ?s1b ?sg HN2.out).mono ?_)
       (case s1a => exact (wmarked_reads (by (with_reducible repeat (first | apply Kd.R_alloc | apply Kd.R_drewN | apply Kd.R_drew)); exact HTu.out)))
       (case s1b => exact (wmarked_fits HTu.out))
       (case sg => exact (tz_at HG.out (by repeat (first | (with_reducible first | exact HB.out | apply below_alloc | apply pw_below_drewN | apply below_drew1) | exact HB.out))))
       rintro e w8 ⟨rfl, hb⟩
       have n0_ : Aside0 (Below w.heap.size w w8) := ⟨below_step (by repeat (first | (with_reducible first | exact HB.out | apply below_alloc | apply pw_below_drewN | apply below_drew1) | exact HB.out)) hb⟩
       have n1_ : Aside0 (Kd.C (Kd.int .u64) w8 A0 l0.length l0) := ⟨Kd.C_below (by repeat (first | exact HC.out | (with_reducible refine Kd.C_alloc ?_ _) | (with_reducible refine Kd.C_drewN ?_ _) | (with_reducible refine Kd.C_drew ?_))) hb⟩
       have n2_ : Aside0 (w8.heap[w.heap.size]? = some (.cells #[.int .i64 n0, .slice A0 l0.length c0] 24 (0, 0))) := ⟨blk_below (by (with_reducible repeat (first | refine blk_drewN ?_ _ | refine blk_drew ?_ | refine blk_alloc ?_ _)); exact Ks.out) hb⟩
       have n3_ : Aside0 (Kd.R (Kd.int .u64) 87 w8 (w.alloc (.cells #[.int .i64 n0, .slice A0 l0.length c0] 24 (0, 0))).heap.size (fun _ => True) (.slice (some ⟨gu, 0, none⟩) (l0 ++ [theMark]).length capu) (l0 ++ [theMark])) := ⟨Kd.R_below (by (with_reducible repeat (first | apply Kd.R_alloc | apply Kd.R_drewN | apply Kd.R_drew)); exact HTu.out) hb⟩
       have n4_ : Aside0 (w8.heap[w1.heap.size]? = some (.cells #[.int .i64 n0, .slice (some ⟨gu, 0, none⟩) l0.length capu] 24 (0, 0))) := ⟨blk_below (by (with_reducible repeat (first | refine blk_drewN ?_ _ | refine blk_drew ?_ | refine blk_alloc ?_ _)); exact Ku.out) hb⟩
       clear HB HC Ks HTu Ku
       have HB := n0_
       have HC := n1_
       have Ks := n2_
       have HTu := n3_
       have Ku := n4_
       clear n0_ n1_ n2_ n3_ n4_
       clear hb)
    | (go_at_call 22
       (with_reducible refine (kept_marked n0 gu capu l0 A0 c0 _ ?s1 ?s2 ?s3 hc_HC).mono ?_)
       (case s1 => exact ((Kd.R_reads' (by (with_reducible repeat (first | apply Kd.R_alloc | apply Kd.R_drewN | apply Kd.R_drew)); exact HTu.out)).2.2))
       (case s2 => exact ((Kd.R_reads' HTu.out).2.1))
       (case s3 => exact (by repeat (first | exact HC.out | (with_reducible refine Kd.C_alloc ?_ _) | (with_reducible refine Kd.C_drewN ?_ _) | (with_reducible refine Kd.C_drew ?_))))
       rintro e w9 ⟨rfl, hb⟩
       have n0_ : Aside0 (Below w.heap.size w w9) := ⟨below_step (by repeat (first | (with_reducible first | exact HB.out | apply below_alloc | apply pw_below_drewN | apply below_drew1) | exact HB.out)) hb⟩
       have n1_ : Aside0 (Kd.C (Kd.int .u64) w9 A0 l0.length l0) := ⟨Kd.C_below (by repeat (first | exact HC.out | (with_reducible refine Kd.C_alloc ?_ _) | (with_reducible refine Kd.C_drewN ?_ _) | (with_reducible refine Kd.C_drew ?_))) hb⟩
       have n2_ : Aside0 (w9.heap[w.heap.size]? = some (.cells #[.int .i64 n0, .slice A0 l0.length c0] 24 (0, 0))) := ⟨blk_below (by (with_reducible repeat (first | refine blk_drewN ?_ _ | refine blk_drew ?_ | refine blk_alloc ?_ _)); exact Ks.out) hb⟩
       have n3_ : Aside0 (Kd.R (Kd.int .u64) 87 w9 (w.alloc (.cells #[.int .i64 n0, .slice A0 l0.length c0] 24 (0, 0))).heap.size (fun _ => True) (.slice (some ⟨gu, 0, none⟩) (l0 ++ [theMark]).length capu) (l0 ++ [theMark])) := ⟨Kd.R_below (by (with_reducible repeat (first | apply Kd.R_alloc | apply Kd.R_drewN | apply Kd.R_drew)); exact HTu.out) hb⟩
       have n4_ : Aside0 (w9.heap[w1.heap.size]? = some (.cells #[.int .i64 n0, .slice (some ⟨gu, 0, none⟩) l0.length capu] 24 (0, 0))) := ⟨blk_below (by (with_reducible repeat (first | refine blk_drewN ?_ _ | refine blk_drew ?_ | refine blk_alloc ?_ _)); exact Ku.out) hb⟩
       clear HB HC Ks HTu Ku
       have HB := n0_
       have HC := n1_
       have Ks := n2_
       have HTu := n3_
       have Ku := n4_
       clear n0_ n1_ n2_ n3_ n4_
       clear hb))
  go_wp2
  go_ret
  exact ⟨rfl, by repeat (first | (with_reducible first | exact HB.out | apply below_alloc | apply pw_below_drewN | apply below_drew1) | exact HB.out)⟩
end Go.Proofs.YtjmkhdhffmlhiaaDoor.PAll
end
