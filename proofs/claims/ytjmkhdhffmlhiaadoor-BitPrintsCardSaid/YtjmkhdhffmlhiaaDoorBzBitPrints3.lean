import Derived.Test.YtjmkhdhffmlhiaaDoorBzBitPrints2
import Derived.RangeFuncNested
import Derived.RangeFuncBound
import Derived.RangeFuncCalls
import Derived.RangeFuncLeaves
import Derived.RangeFuncBox
import Derived.Shelf.Abstract
import Derived.Shelf.RegionOpen
import Derived.WalkKit
import Derived.OwnWalkIn
import Derived.TacticsInMore
import Derived.LoopNIn
import Derived.LoopIn
import Derived.RangeFuncFrom
import Derived.Test.YtjmkhdhffmlhiaaDoorBzBitPrints1
import Derived.OrdersIn
import Derived.TacticsIn
import Derived.Lib.Hide
import Derived.StillTailTactics
import Derived.Laws.IdiomCopy
import Derived.SizedLaws
import Derived.Shelf.Strings.Builder1
import Derived.Shelf.LaysM
import Derived.Shelf.Strconv.Itoa3
import Derived.Lib.AppendIntMem
section
namespace Go.Proofs.YtjmkhdhffmlhiaaDoor.PAll
open Go.RowKit Go.Proofs.YtjmkhdhffmlhiaaDoorW.PrintWords Go.Proofs.YtjmkhdhffmlhiaaDoorW.PrintLast Go.Proofs.YtjmkhdhffmlhiaaDoorW.PrintMore
attribute [local go_sem] max2_int min2_int max_two min_two max_three min_three max_four min_four w64_u8 w64_mod256   -- for this text's walks alone
set_option linter.unusedVariables false
set_option linter.unusedSimpArgs false
def bitset_has.f (a0_0 : Int) (l0_1 : List Int) (a1 : Int) : Option (Bool) := if 0 ≤ (wrap64 (Int.tdiv a1 64)) then (if (wrap64 (Int.tdiv a1 64)) < (l0_1.length : Int) then (if 0 ≤ (Int.tmod a1 64) then (some ((Go.bits .and .u64 (shr .u64 (rd l0_1 (wrap64 (Int.tdiv a1 64))) (Int.tmod a1 64)) 1) == 1)) else (none)) else (none)) else (none)
set_option maxHeartbeats 8000000 in
set_option maxRecDepth 100000 in
theorem bitset_has.calls (a0_0 : Int) (A0_1 : Option Addr) (c0_1 : Nat) (l0_1 : List Int) (a1 : Int) (r : Bool) (w : World) (hr0_1 : Kd.C (Kd.int .u64) w A0_1 l0_1.length l0_1) (hc0_1 : l0_1.length ≤ c0_1) (h : bitset_has.f a0_0 l0_1 a1 = some r) :
    Calls Tryd.prog 77 #[.agg #[.int .i64 a0_0, .slice A0_1 l0_1.length c0_1], .int .i64 a1] w fun e w' => e = .returned (.bool r) ∧ Below w.heap.size w w' := by
  have hu24 := Tryd.underlying24
  have HR0_1 := Aside0.mk hr0_1
  have HC0_1 := Aside0.mk hc0_1
  clear hr0_1 hc0_1
  have HB := Aside0.mk (Below.refl w.heap.size w)
  have H : (if 0 ≤ (wrap64 (Int.tdiv a1 64)) then (if (wrap64 (Int.tdiv a1 64)) < (l0_1.length : Int) then (if 0 ≤ (Int.tmod a1 64) then (some ((Go.bits .and .u64 (shr .u64 (rd l0_1 (wrap64 (Int.tdiv a1 64))) (Int.tmod a1 64)) 1) == 1)) else (none)) else (none)) else (none)) = some r := h
  clear h
  obtain ⟨ji3, hji3⟩ : ∃ j_ : Int, (wrap64 (Int.tdiv a1 64)) = j_ := ⟨_, rfl⟩
  replace H : (if 0 ≤ (ji3) then (if (ji3) < (l0_1.length : Int) then (if 0 ≤ (Int.tmod a1 64) then (some ((Go.bits .and .u64 (shr .u64 (rd l0_1 (ji3)) (Int.tmod a1 64)) 1) == 1)) else (none)) else (none)) else (none)) = some r := by first | (rw [hji3] at H; exact H) | (simp only [hji3] at H ⊢; exact H)
  have hji3w : (IntKind.i64.wrap (Int.tdiv a1 64)) = ji3 := (i64_w _).trans hji3
  by_cases c4 : 0 ≤ (ji3)
  · rw [if_pos c4] at H
    have c4b0 : decide (0 ≤ (ji3)) = true := decide_eq_true c4
    clear c4
    by_cases c5 : (ji3) < (l0_1.length : Int)
    · rw [if_pos c5] at H
      have c5b0 : decide ((ji3) < (l0_1.length : Int)) = true := decide_eq_true c5
      clear c5
      obtain ⟨ji6, hji6⟩ : ∃ j_ : Int, (Int.tmod a1 64) = j_ := ⟨_, rfl⟩
      replace H : (if 0 ≤ (ji6) then (some ((Go.bits .and .u64 (shr .u64 (rd l0_1 (ji3)) (ji6)) 1) == 1)) else (none)) = some r := by first | (rw [hji6] at H; exact H) | (simp only [hji6] at H ⊢; exact H)
      by_cases c7 : 0 ≤ (ji6)
      · rw [if_pos c7] at H
        have c7b0 := eq_true c7
        have c7b1 : decide (0 ≤ (ji6)) = true := decide_eq_true c7
        clear c7
        obtain ⟨ji8, hji8⟩ : ∃ j_ : Int, (shr .u64 (rd l0_1 (ji3)) (ji6)) = j_ := ⟨_, rfl⟩
        replace H : (some ((Go.bits .and .u64 (ji8) 1) == 1)) = some r := by first | (rw [hji8] at H; exact H) | (simp only [hji8] at H ⊢; exact H)
        have hji8_ : ((rd l0_1 (ji3)) / 2 ^ min (ji6).toNat 64) = ji8 := hji8
        have hji8z : (ji6) ≤ 64 → ((rd l0_1 (ji3)) / 2 ^ (ji6).toNat) = ji8 := shr_small hji8
        obtain rfl := Option.some.inj H
        go_enter Tryd.func77, Tryd.ntmps77
        go_wp2_with (first | ((with_reducible refine gate_dst (N := 2) rfl ?_); refine box_event ?hg (N := 2) ?hd (cs := #[.int .i64 a0_0, .slice A0_1 l0_1.length c0_1]) (t := 24) ?hr ?_; (case hd => rfl); (case hg => rfl); (case hr => first | (go_simp; done) | (go_simp; rfl)); intro gb101 hg w9 hbox hb; have n0_ := Aside0.mk (below_step (by repeat (first | (with_reducible first | exact HB.out | apply below_alloc | apply pw_below_drewN | apply below_drew1) | exact HB.out)) hb); have n1_ := Aside0.mk (hbox); have n2_ := Aside0.mk ((by rw [hg]; exact (below_size (by repeat (first | (with_reducible first | exact HB.out | apply below_alloc | apply pw_below_drewN | apply below_drew1) | exact HB.out))) : w.heap.size ≤ gb101)); have n3_ := Aside0.mk ((by rw [hg]; exact (below_size (by repeat (first | (with_reducible first | exact HB.out | apply below_alloc | apply pw_below_drewN | apply below_drew1) | exact HB.out))) : w.heap.size ≤ gb101)); clear HB; have HB := n0_; have BK101 := n1_; have GW101 := n2_; have GE101 := n3_; clear n0_ n1_ n2_ n3_; clear hb hbox hg; have hcz10_0 : w9.cell? ⟨gb101, 0, none⟩ = some (.int .i64 a0_0) := (blk_cell BK101.out 0).trans rfl; have hcz10_1 : w9.cell? ⟨gb101, 1, none⟩ = some (.slice A0_1 l0_1.length c0_1) := (blk_cell BK101.out 1).trans rfl; have hfz10_0 := blk_frozen BK101.out 0; have hfz10_1 := blk_frozen BK101.out 1; have p102 : 0 ≤ ((ji3) : Int) := of_decide_eq_true (by first | (with_reducible assumption) | assumption); have q102 : (ji3) < (l0_1.length : Int) := of_decide_eq_true (by first | (with_reducible assumption) | assumption); obtain ⟨ad102, e102, hx102_0⟩ := Kd.at_int HR0_1.out (ji3) p102 q102; cases e102; replace hx102_0 := (HB.out.cell (World.block_lt_of_cell? w _ hx102_0)).trans hx102_0; replace p102 := eq_true p102; replace q102 := eq_true q102))
        go_ret
        exact ⟨by first | rfl | (simp [errW_none, errW_some] <;> rfl) | (simp only [← hji3, ← hji6, ← hji8]; first | rfl | (simp [errW_none, errW_some] <;> rfl)) | (simp [*, errW_none, errW_some] <;> rfl), by repeat (first | (with_reducible first | exact HB.out | apply below_alloc | apply pw_below_drewN | apply below_drew1 | refine below_set ?_ GE101.out) | exact HB.out)⟩
      · rw [if_neg c7] at H
        exact absurd H (by simp)
    · rw [if_neg c5] at H
      exact absurd H (by simp)
  · rw [if_neg c4] at H
    exact absurd H (by simp)
end Go.Proofs.YtjmkhdhffmlhiaaDoor.PAll
end
section
namespace Go.Proofs.YtjmkhdhffmlhiaaDoor.PAll
open Go.RowKit Go.Proofs.YtjmkhdhffmlhiaaDoorW.PrintWords Go.Proofs.YtjmkhdhffmlhiaaDoorW.PrintLast Go.Proofs.YtjmkhdhffmlhiaaDoorW.PrintMore
attribute [local go_sem] max2_int min2_int max_two min_two max_three min_three max_four min_four w64_u8 w64_mod256   -- for this text's walks alone
set_option linter.unusedVariables false
set_option linter.unusedSimpArgs false
end Go.Proofs.YtjmkhdhffmlhiaaDoor.PAll
end
section
namespace Go.Proofs.YtjmkhdhffmlhiaaDoor.PAll
set_option linter.unusedVariables false
open Go.RowKit Go.Proofs.YtjmkhdhffmlhiaaDoorW.PrintWords Go.Proofs.YtjmkhdhffmlhiaaDoorW.PrintMore
def rk (ws : List Int) (e : Nat) : Nat := (List.range e).countP (hb ws)
theorem rk_succ (ws : List Int) (e : Nat) : rk ws (e + 1) = rk ws e + (if hb ws e = true then 1 else 0) := by
  unfold rk
  rw [List.range_succ, List.countP_append]
  simp [List.countP_cons]
theorem rk_mono (ws : List Int) {d e : Nat} (h : d ≤ e) : rk ws d ≤ rk ws e := by
  induction e with
  | zero => have : d = 0 := by omega
            subst this; exact Nat.le_refl _
  | succ e ih =>
    rcases Nat.lt_or_ge d (e + 1) with h1 | h1
    · have := ih (by omega); rw [rk_succ]; omega
    · have : d = e + 1 := by omega
      subst this; exact Nat.le_refl _
theorem rk_lt (ws : List Int) {d e : Nat} (h : d < e) (hd : hb ws d = true) : rk ws d < rk ws e := by
  have h1 := rk_succ ws d
  rw [if_pos hd] at h1
  have := rk_mono ws (show d + 1 ≤ e from h)
  omega
theorem rk_le (ws : List Int) (e : Nat) : rk ws e ≤ e := by
  have := List.countP_le_length (p := hb ws) (l := List.range e)
  rwa [List.length_range] at this
theorem rk_add (ws : List Int) (i r : Nat) (hr : r ≤ 64) : rk ws (64 * i + r) = rk ws (64 * i) + (List.range r).countP (tb (ws.getD i 0)) := by
  unfold rk
  rw [List.range_add, List.countP_append, List.countP_map]
  congr 1
  refine List.countP_congr fun j hj => ?_
  have hj := List.mem_range.1 hj
  simp only [Function.comp]
  unfold hb
  rw [show (64 * i + j) / 64 = i by omega, show (64 * i + j) % 64 = j by omega]
theorem cnt_snoc (l : List Int) (x : Int) : cnt (l ++ [x]) = cnt l + pc x.toNat := by
  unfold cnt
  rw [List.map_append, List.sum_append, List.map_cons, List.map_nil, List.sum_cons, List.sum_nil, Nat.add_zero]
theorem cnt_take (ws : List Int) : ∀ i, i ≤ ws.length → cnt (ws.take i) = rk ws (64 * i)
  | 0, _ => by simp [cnt, rk]
  | i + 1, h => by
    have h1 := cnt_take ws i (by omega)
    have hlt : i < ws.length := by omega
    rw [List.take_succ_eq_append_getElem hlt]
    rw [cnt_snoc, h1, show 64 * (i + 1) = 64 * i + 64 by omega, rk_add ws i 64 (Nat.le_refl _), pc_countP, List.getD_eq_getElem?_getD, List.getElem?_eq_getElem hlt]
    rfl
theorem rk_all {N : Nat} {ws : List Int} (h : MayP (N : Int) ws) : cnt ws = rk ws N := by
  have h1 := cnt_take ws ws.length (Nat.le_refl _)
  rw [List.take_length] at h1
  rw [h1]
  have h2 : N ≤ 64 * ws.length := by have := h.2.2.1; rw [Int.toNat_natCast] at this; omega
  have key : ∀ d, rk ws (N + d) = rk ws N := by
    intro d
    induction d with
    | zero => rfl
    | succ d ih =>
      rw [← Nat.add_assoc, rk_succ, ih, h.2.2.2 (N + d) (by rw [Int.toNat_natCast]; omega)]
      simp
  have := key (64 * ws.length - N)
  rwa [Nat.add_sub_cancel' h2] at this
theorem pc_low {x : Int} (hx : Wd x) {r : Nat} (hr : r < 64) : bits_OnesCount64.f (Go.bits .and .u64 x (IntKind.u64.wrap ((shl .u64 1 (r : Int)) - 1))) = some (((List.range r).countP (tb x) : Nat) : Int) := by
  have h1 := (one_shl (e := (r : Int)) (by omega) (by omega)).1
  have hp : (2 : Nat) ^ r < 2 ^ 64 := Nat.pow_lt_pow_right (by omega) hr
  have hp0 : 0 < (2 : Nat) ^ r := Nat.two_pow_pos r
  have h2 : IntKind.u64.wrap ((shl .u64 1 (r : Int)) - 1) = ((2 ^ r - 1 : Nat) : Int) := by
    rw [h1, Int.toNat_natCast, show (((2 ^ r : Nat) : Int) - 1) = ((2 ^ r - 1 : Nat) : Int) by omega]
    exact wrap_nat _ (by omega)
  have hm : Wd ((2 ^ r - 1 : Nat) : Int) := Wd.of (by omega)
  rw [h2, ones_eq (and_eq _ _).2, pc_countP]
  congr 2
  have h3 : ∀ j, tb (Go.bits .and .u64 x ((2 ^ r - 1 : Nat) : Int)) j = (tb x j && decide (j < r)) := fun j => by
    rw [tb_and hx hm]
    congr 1
    unfold tb
    rw [Int.toNat_natCast, Nat.testBit_two_pow_sub_one]
  rw [show (64 : Nat) = r + (64 - r) by omega, List.range_add, List.countP_append, List.countP_map]
  have h4 : (List.range r).countP (tb (Go.bits .and .u64 x ((2 ^ r - 1 : Nat) : Int))) = (List.range r).countP (tb x) := by
    refine List.countP_congr fun j hj => ?_
    rw [h3, decide_eq_true (List.mem_range.1 hj), Bool.and_true]
  have h5 : (List.range (64 - r)).countP (tb (Go.bits .and .u64 x ((2 ^ r - 1 : Nat) : Int)) ∘ fun x => r + x) = 0 := by
    rw [List.countP_eq_zero]
    intro j _
    simp only [Function.comp]
    rw [h3, decide_eq_false (by omega), Bool.and_false]
    simp
  rw [h4, h5, Nat.add_zero]
theorem Rank_l0 (N : Nat) (hN : N ≤ 4096) (ws : List Int) (hw : Wds ws) (hl : ws.length = (N + 63) / 64) (c : Nat) (hc : c ≤ N) : ∀ d i s : Nat, i + d = c / 64 → s = cnt (ws.take i) →
    Ev (fun k => bitset_Rank.l0 k (c : Int) (s : Int) (ws.take (c / 64)) ((ws.take (c / 64)).length : Int) (i : Int) (N : Int) ws) (rk ws c : Int) := by
  have hq : c / 64 ≤ ws.length := by omega
  have hlen : (ws.take (c / 64)).length = c / 64 := by rw [List.length_take]; omega
  intro d
  induction d with
  | zero =>
    intro i s hi hs
    have hi' : i = c / 64 := by omega
    subst hi'
    rw [cnt_take ws _ hq] at hs
    by_cases hr : c % 64 = 0
    · refine Ev.step (f := fun _ => some (rk ws c : Int)) (fun k => ?_) (Ev.now _)
      rw [bitset_Rank.l0]
      rw [hlen, if_neg (by omega), if_pos (by rw [tmod_nat]; omega), hs, show 64 * (c / 64) = c by omega]
    · have hlt : c / 64 < ws.length := by omega
      have hwx := hw _ (List.getElem_mem hlt)
      have h4 : rd ws ((c / 64 : Nat) : Int) = ws[c / 64] := by rw [rd_nat, List.getD_eq_getElem?_getD, List.getElem?_eq_getElem hlt]; rfl
      have h5 := rk_add ws (c / 64) (c % 64) (by omega)
      rw [show 64 * (c / 64) + c % 64 = c by omega, List.getD_eq_getElem?_getD, List.getElem?_eq_getElem hlt] at h5
      have h6 := rk_le ws c
      refine Ev.step (f := fun _ => some (rk ws c : Int)) (fun k => ?_) (Ev.now _)
      rw [bitset_Rank.l0]
      rw [hlen, if_neg (by omega), tmod_nat, tdiv_nat, w64_nat (n := ((c / 64 : Nat) : Int)) (by omega) (by omega), if_neg (by omega), if_pos (by omega), if_pos (by omega), if_pos (by omega), h4, pc_low hwx (by omega), Option.bind_some]
      rw [h5] at h6 ⊢
      rw [hs]
      congr 1
      change wrap64 (((rk ws (64 * (c / 64)) : Nat) : Int) + (((List.range (c % 64)).countP (tb ws[c / 64]) : Nat) : Int)) = ((rk ws (64 * (c / 64)) + (List.range (c % 64)).countP (tb ws[c / 64]) : Nat) : Int)
      change rk ws (64 * (c / 64)) + (List.range (c % 64)).countP (tb ws[c / 64]) ≤ c at h6
      rw [w64_nat (by omega) (by omega)]; omega
  | succ d ih =>
    intro i s hi hs
    have hlt : i < ws.length := by omega
    have hwx := hw _ (List.getElem_mem hlt)
    have hlt2 : i < (ws.take (c / 64)).length := by rw [hlen]; omega
    have h4 : rd (ws.take (c / 64)) (i : Int) = ws[i] := by rw [rd_nat, List.getD_eq_getElem?_getD, List.getElem?_eq_getElem hlt2, List.getElem_take]; rfl
    obtain ⟨z, h6, h5, h8⟩ : ∃ z : Nat, z ≤ 64 ∧ bits_OnesCount64.f ws[i] = some (z : Int) ∧ s + z = cnt (ws.take (i + 1)) := ⟨_, pc_le (ws[i]).toNat, ones_eq hwx, by rw [List.take_succ_eq_append_getElem hlt, cnt_snoc, hs]⟩
    have h7 := cnt_le (ws.take i)
    rw [List.length_take] at h7
    refine Ev.step (fun k => ?_) (ih (i + 1) (s + z) (by omega) h8)
    conv => lhs; rw [bitset_Rank.l0]
    rw [hlen, if_pos (by omega), if_pos (by omega), if_pos (by omega), h4, h5, Option.bind_some, show wrap64 ((i : Int) + 1) = ((i + 1 : Nat) : Int) by unfold wrap64; omega, ← Int.natCast_add, w64_nat (by omega) (by omega)]
def cl (N : Nat) (e : Int) : Nat := min e.toNat N
theorem Rank_eq {N : Nat} {ws : List Int} (hw : Wds ws) (h : MayP (N : Int) ws) (e : Int) : Ev (fun k => bitset_Rank.f k (N : Int) ws e) (rk ws (cl N e) : Int) := by
  have hN : N ≤ 4096 := by have := h.2.1; omega
  have hlen : ws.length = (N + 63) / 64 := by have := h.2.2.1; rwa [Int.toNat_natCast] at this
  have hc : cl N e ≤ N := Nat.min_le_right _ _
  have hm : mn (mx e 0) (N : Int) = ((cl N e : Nat) : Int) := by unfold mn mx cl; split <;> split <;> omega
  refine Ev.congr (fun k => ?_) (Rank_l0 N hN ws hw hlen (cl N e) hc (cl N e / 64) 0 0 (by omega) (by simp [cnt]))
  unfold bitset_Rank.f
  rw [May_eq _ ws hw (by omega), may_true.2 h, Option.bind_some, if_pos rfl, hm, tdiv_nat, w64_nat (n := ((cl N e / 64 : Nat) : Int)) (by omega) (by omega), if_pos (by omega), if_pos (by omega), Int.toNat_natCast]
  rfl
def SelSays (ws : List Int) (k : Int) (r : Int) : Prop := ((k < 0 ∨ (cnt ws : Int) ≤ k) ∧ r = -1) ∨ (∃ e : Nat, hb ws e = true ∧ (rk ws e : Int) = k ∧ r = (e : Int))
theorem low_off {x : Nat} (h0 : 0 < x) (hx : x < 2 ^ 64) : Lib.ctz 64 x < 64 ∧ x.testBit (Lib.ctz 64 x) = true ∧ (∀ j, j < Lib.ctz 64 x → x.testBit j = false) ∧ (∀ j, (x &&& (x - 1)).testBit j = (x.testBit j && !decide (j = Lib.ctz 64 x))) := by
  obtain ⟨m, h1, h2⟩ := Lib.ctzFrom_spec 64 x h0 hx
  have hc : Lib.ctz 64 x = Lib.ctzFrom 64 x := by unfold Lib.ctz; rw [if_neg (by omega)]
  rw [hc]
  generalize Lib.ctzFrom 64 x = c at h1 h2
  have hb1 : ∀ j, x.testBit j = (decide (j ≥ c) && (2 * m + 1).testBit (j - c)) := fun j => by rw [h1, Nat.testBit_two_pow_mul]
  have hp0 : 0 < (2 : Nat) ^ c := Nat.two_pow_pos c
  have hand : x &&& (x - 1) = 2 ^ c * (2 * m) := by
    have e1 : x - 1 = 2 ^ c * (2 * m) + (2 ^ c - 1) := by rw [h1, Nat.mul_add]; omega
    have h3 : (2 ^ c * (2 * m + 1)) &&& (2 ^ c * (2 * m) + (2 ^ c - 1)) = 2 ^ c * ((2 * m + 1) &&& (2 * m)) := by
      have h := and_split c 0 (2 ^ c - 1) (2 * m + 1) (2 * m) hp0 (by omega)
      rw [Nat.zero_and] at h
      simpa only [Nat.add_zero] using h
    rw [e1, h1, h3]
    congr 1
    apply Nat.eq_of_testBit_eq
    intro j
    rw [Nat.testBit_and]
    cases j with
    | zero => simp [Nat.testBit_zero]
    | succ j => rw [Nat.testBit_succ, Nat.testBit_succ, show (2 * m + 1) / 2 = m by omega, show 2 * m / 2 = m by omega, Bool.and_self]
  refine ⟨h2, ?_, fun j hj => ?_, fun j => ?_⟩
  · rw [hb1, Nat.sub_self]; simp [Nat.testBit_zero]
  · rw [hb1, decide_eq_false (by omega), Bool.false_and]
  · rw [hand, Nat.testBit_two_pow_mul, hb1]
    by_cases hj : j = c
    · subst hj
      simp [Nat.testBit_zero]
    · rw [decide_eq_false hj, Bool.not_false, Bool.and_true]
      by_cases hge : j ≥ c
      · rw [decide_eq_true hge, Bool.true_and, Bool.true_and]
        obtain ⟨t, rfl⟩ : ∃ t, j = c + (t + 1) := ⟨j - c - 1, by omega⟩
        rw [show c + (t + 1) - c = t + 1 by omega, Nat.testBit_succ, Nat.testBit_succ, show (2 * m + 1) / 2 = m by omega, show 2 * m / 2 = m by omega]
      · rw [decide_eq_false hge, Bool.false_and, Bool.false_and]
theorem Select_l1 (i : Nat) (hi : i ≤ 64) : ∀ (k : Nat) (x : Int), Wd x → k < pc x.toNat → ∃ e : Nat, e < 64 ∧ tb x e = true ∧ (List.range e).countP (tb x) = k ∧ Ev (fun f => bitset_Select.l1 f (k : Int) (i : Int) x) ((64 * i + e : Nat) : Int) := by
  intro k
  induction k with
  | zero =>
    intro x hx hk
    have hn := hx.nat
    have h0 : 0 < x.toNat := by
      rcases Nat.eq_zero_or_pos x.toNat with h | h
      · have := (pc_zero hx).2 (fun j => by unfold tb; rw [h]; simp)
        omega
      · exact h
    obtain ⟨c1, c2, c3, _⟩ := low_off h0 hn.1
    refine ⟨Lib.ctz 64 x.toNat, c1, c2, ?_, ?_⟩
    · rw [List.countP_eq_zero]
      intro j hj
      have := c3 j (List.mem_range.1 hj)
      unfold tb
      rw [this]; simp
    · refine Ev.step (f := fun _ => some ((64 * i + Lib.ctz 64 x.toNat : Nat) : Int)) (fun f => ?_) (Ev.now _)
      rw [bitset_Select.l1]
      rw [if_neg (by omega)]
      unfold bits_TrailingZeros64.f
      rw [if_pos (by unfold Wd at hx; exact hx), Option.bind_some, w64_nat (n := (i : Int) * 64) (by omega) (by omega), w64_nat (by omega) (by omega)]
      congr 1
      omega
  | succ k ih =>
    intro x hx hk
    have hn := hx.nat
    have h0 : 0 < x.toNat := by
      rcases Nat.eq_zero_or_pos x.toNat with h | h
      · have := (pc_zero hx).2 (fun j => by unfold tb; rw [h]; simp)
        omega
      · exact h
    obtain ⟨c1, c2, c3, c4⟩ := low_off h0 hn.1
    have hx1 : IntKind.u64.wrap (x - 1) = ((x.toNat - 1 : Nat) : Int) := by rw [show x - 1 = ((x.toNat - 1 : Nat) : Int) by omega]; exact wrap_nat _ (by omega)
    have hand : Go.bits .and .u64 x (IntKind.u64.wrap (x - 1)) = ((x.toNat &&& (x.toNat - 1) : Nat) : Int) := by
      rw [hx1]
      conv => lhs; rw [← hn.2]
      exact and_nat _ _ hn.1 (by omega)
    have hlt : x.toNat &&& (x.toNat - 1) < 2 ^ 64 := Nat.and_lt_two_pow _ (by omega)
    have hy : Wd ((x.toNat &&& (x.toNat - 1) : Nat) : Int) := Wd.of hlt
    have htb : ∀ j, tb ((x.toNat &&& (x.toNat - 1) : Nat) : Int) j = (tb x j && !decide (j = Lib.ctz 64 x.toNat)) := fun j => by
      unfold tb; rw [Int.toNat_natCast]; exact c4 j
    generalize Lib.ctz 64 x.toNat = c at c1 c2 c3 htb
    -- what is below e, without the lowest bit
    have hcount : ∀ e, c < e → (List.range e).countP (tb x) = (List.range e).countP (tb ((x.toNat &&& (x.toNat - 1) : Nat) : Int)) + 1 := by
      intro e he
      obtain ⟨d, rfl⟩ : ∃ d, e = (c + 1) + d := ⟨e - (c + 1), by omega⟩
      have low : ∀ y : Int, (List.range (c + 1 + d)).countP (tb y) = (List.range c).countP (tb y) + (if tb y c = true then 1 else 0) + (List.range d).countP (tb y ∘ fun t => c + 1 + t) := fun y => by
        rw [List.range_add, List.countP_append, List.range_succ, List.countP_append, List.countP_map]
        simp [List.countP_cons]
      rw [low, low]
      have e1 : (List.range c).countP (tb ((x.toNat &&& (x.toNat - 1) : Nat) : Int)) = (List.range c).countP (tb x) := by
        refine List.countP_congr fun j hj => ?_
        rw [htb, decide_eq_false (by have := List.mem_range.1 hj; omega)]; simp
      have e2 : (List.range d).countP (tb ((x.toNat &&& (x.toNat - 1) : Nat) : Int) ∘ fun t => c + 1 + t) = (List.range d).countP (tb x ∘ fun t => c + 1 + t) := by
        refine List.countP_congr fun j hj => ?_
        simp only [Function.comp]
        rw [htb, decide_eq_false (by omega)]; simp
      have e3 : tb ((x.toNat &&& (x.toNat - 1) : Nat) : Int) c = false := by rw [htb]; simp
      have e4 : tb x c = true := c2
      rw [e1, e2, e3, e4, if_pos rfl, if_neg (by simp)]
      omega
    have hpc : pc x.toNat = pc (x.toNat &&& (x.toNat - 1)) + 1 := by
      have := hcount 64 c1
      have h9 := pc_countP ((x.toNat &&& (x.toNat - 1) : Nat) : Int)
      rw [Int.toNat_natCast] at h9
      rw [pc_countP, h9]; exact this
    obtain ⟨e, e1, e2, e3, e4⟩ := ih ((x.toNat &&& (x.toNat - 1) : Nat) : Int) hy (by rw [Int.toNat_natCast]; omega)
    rw [htb, Bool.and_eq_true] at e2
    have hne : e ≠ c := by have := e2.2; simpa using this
    have hce : c < e := by
      rcases Nat.lt_trichotomy c e with h | h | h
      · exact h
      · exact absurd h.symm hne
      · have := c3 e h
        have h2 := e2.1
        unfold tb at h2
        rw [this] at h2; cases h2
    refine ⟨e, e1, e2.1, by rw [hcount e hce, e3], Ev.step (fun f => ?_) e4⟩
    conv => lhs; rw [bitset_Select.l1]
    rw [if_pos (by omega), hand, show wrap64 (((k + 1 : Nat) : Int) - 1) = (k : Int) by unfold wrap64; have := pc_le x.toNat; omega]
theorem Select_l0 (ws : List Int) (hw : Wds ws) (hl : ws.length ≤ 64) (k : Nat) (hk : k ≤ 9223372036854775807) : ∀ d i q : Nat, i + d = ws.length → cnt (ws.take i) + q = k → ∃ r, SelSays ws (k : Int) r ∧ Ev (fun f => bitset_Select.l0 f (q : Int) ws (ws.length : Int) (i : Int)) r := by
  intro d
  induction d with
  | zero =>
    intro i q hi hq
    rw [List.take_of_length_le (by omega)] at hq
    refine ⟨-1, .inl ⟨.inr (by omega), rfl⟩, Ev.step (f := fun _ => some (-1)) (fun f => ?_) (Ev.now _)⟩
    rw [bitset_Select.l0]
    rw [if_neg (by omega)]
  | succ d ih =>
    intro i q hi hq
    have hlt : i < ws.length := by omega
    have hwx := hw _ (List.getElem_mem hlt)
    have h4 : rd ws (i : Int) = ws[i] := by rw [rd_nat, List.getD_eq_getElem?_getD, List.getElem?_eq_getElem hlt]; rfl
    obtain ⟨z, hz, h5, h8⟩ : ∃ z : Nat, z = pc (ws[i]).toNat ∧ bits_OnesCount64.f ws[i] = some (z : Int) ∧ cnt (ws.take i) + z = cnt (ws.take (i + 1)) := by
      have a1 := ones_eq hwx
      have a2 : cnt (ws.take (i + 1)) = cnt (ws.take i) + pc (ws[i]).toNat := by rw [List.take_succ_eq_append_getElem hlt, cnt_snoc]
      generalize pc (ws[i]).toNat = z at a1 a2
      exact ⟨z, rfl, a1, a2.symm⟩
    by_cases hge : z ≤ q
    · obtain ⟨r, h1, h2⟩ := ih (i + 1) (q - z) (by omega) (by omega)
      refine ⟨r, h1, Ev.step (fun f => ?_) h2⟩
      conv => lhs; rw [bitset_Select.l0]
      rw [if_pos (by omega), if_pos (by omega), if_pos (by omega), h4, h5, Option.bind_some, if_pos (by omega), show wrap64 ((i : Int) + 1) = ((i + 1 : Nat) : Int) by unfold wrap64; omega, show wrap64 ((q : Int) - (z : Int)) = ((q - z : Nat) : Int) by unfold wrap64; omega]
    · obtain ⟨e, e1, e2, e3, e4⟩ := Select_l1 i (by omega) q ws[i] hwx (by rw [← hz]; omega)
      have h9 := rk_add ws i e (by omega)
      rw [List.getD_eq_getElem?_getD, List.getElem?_eq_getElem hlt, ← cnt_take ws i (by omega)] at h9
      change rk ws (64 * i + e) = cnt (ws.take i) + (List.range e).countP (tb ws[i]) at h9
      refine ⟨((64 * i + e : Nat) : Int), .inr ⟨64 * i + e, ?_, by rw [h9, e3]; omega, rfl⟩, Ev.step (fun f => ?_) e4⟩
      · unfold hb
        rw [show (64 * i + e) / 64 = i by omega, show (64 * i + e) % 64 = e by omega, List.getD_eq_getElem?_getD, List.getElem?_eq_getElem hlt]
        exact e2
      · conv => lhs; rw [bitset_Select.l0]
        rw [if_pos (by omega), if_pos (by omega), if_pos (by omega), h4, h5, Option.bind_some, if_neg (by omega)]
theorem Select_eq {N : Nat} {ws : List Int} (hw : Wds ws) (h : MayP (N : Int) ws) (k : Int) (hk : k ≤ 9223372036854775807) : ∃ r, SelSays ws k r ∧ Ev (fun f => bitset_Select.f f (N : Int) ws k) r := by
  have hlen : ws.length ≤ 64 := by have h1 := h.2.1; have h2 := h.2.2.1; omega
  by_cases h0 : k < 0
  · refine ⟨-1, .inl ⟨.inl h0, rfl⟩, Ev.congr (f := fun f => bitset_Select.j0 f k true (N : Int) ws) (fun f => ?_) (Ev.step (f := fun _ => some (-1)) (fun f => ?_) (Ev.now _))⟩
    · unfold bitset_Select.f
      rw [May_eq _ ws hw (by omega), may_true.2 h, Option.bind_some, if_pos rfl, decide_eq_true h0]
    · rw [bitset_Select.j0]
      rw [if_pos rfl]
  · obtain ⟨n, rfl⟩ := Int.eq_ofNat_of_zero_le (show 0 ≤ k by omega)
    obtain ⟨r, h1, h2⟩ := Select_l0 ws hw hlen n (by omega) ws.length 0 n (by omega) (by simp [cnt])
    refine ⟨r, h1, Ev.congr (f := fun f => bitset_Select.j0 f (n : Int) false (N : Int) ws) (fun f => ?_) (Ev.step (f := fun f => bitset_Select.l0 f (n : Int) ws (ws.length : Int) ((0 : Nat) : Int)) (fun f => ?_) h2)⟩
    · unfold bitset_Select.f
      rw [May_eq _ ws hw (by omega), may_true.2 h, Option.bind_some, if_pos rfl, decide_eq_false h0]
    · rw [bitset_Select.j0]
      rw [if_neg (by simp)]; rfl
end Go.Proofs.YtjmkhdhffmlhiaaDoor.PAll
end
section
namespace Go.Proofs.YtjmkhdhffmlhiaaDoor.PAll
open Go.RowKit Go.Proofs.YtjmkhdhffmlhiaaDoorW.PrintWords Go.Proofs.YtjmkhdhffmlhiaaDoorW.PrintLast Go.Proofs.YtjmkhdhffmlhiaaDoorW.PrintMore
attribute [local go_sem] max2_int min2_int max_two min_two max_three min_three max_four min_four w64_u8 w64_mod256   -- for this text's walks alone
set_option linter.unusedVariables false
set_option linter.unusedSimpArgs false
end Go.Proofs.YtjmkhdhffmlhiaaDoor.PAll
end
section
namespace Go.Proofs.YtjmkhdhffmlhiaaDoor.PAll
open Go.RowKit Go.Proofs.YtjmkhdhffmlhiaaDoorW.PrintWords Go.Proofs.YtjmkhdhffmlhiaaDoorW.PrintLast Go.Proofs.YtjmkhdhffmlhiaaDoorW.PrintMore
attribute [local go_sem] max2_int min2_int max_two min_two max_three min_three max_four min_four w64_u8 w64_mod256   -- for this text's walks alone
set_option linter.unusedVariables false
set_option linter.unusedSimpArgs false
end Go.Proofs.YtjmkhdhffmlhiaaDoor.PAll
end
section
namespace Go.Proofs.YtjmkhdhffmlhiaaDoor.PAll
open Go.RowKit Go.Proofs.YtjmkhdhffmlhiaaDoorW.PrintWords Go.Proofs.YtjmkhdhffmlhiaaDoorW.PrintLast Go.Proofs.YtjmkhdhffmlhiaaDoorW.PrintMore
attribute [local go_sem] max2_int min2_int max_two min_two max_three min_three max_four min_four w64_u8 w64_mod256   -- for this text's walks alone
set_option linter.unusedVariables false
set_option linter.unusedSimpArgs false
end Go.Proofs.YtjmkhdhffmlhiaaDoor.PAll
end
section
namespace Go.Proofs.YtjmkhdhffmlhiaaDoor.PAll
set_option linter.unusedVariables false
open Go.RowKit Go.Proofs.YtjmkhdhffmlhiaaDoorW.PrintWords Go.Proofs.YtjmkhdhffmlhiaaDoorW.PrintMore
def els (N : Nat) (ws : List Int) : List Int := ((List.range N).filter (hb ws)).map (fun e : Nat => (e : Int))
end Go.Proofs.YtjmkhdhffmlhiaaDoor.PAll
end
section
namespace Go.Proofs.YtjmkhdhffmlhiaaDoor.PAll
set_option linter.unusedVariables false
open Go.RowKit Go.Shelf Go.Proofs.YtjmkhdhffmlhiaaDoorW.PrintWords Go.Proofs.YtjmkhdhffmlhiaaDoorW.PrintMore
attribute [local go_sem] Oper.semAt_some
def Ke (K : Nat → Prop) (A B : World) : Prop := ∀ k, K k → B.heap[k]? = A.heap[k]?
theorem Ke.refl (K : Nat → Prop) (A : World) : Ke K A A := fun _ _ => rfl
theorem Ke.trans {K : Nat → Prop} {A B C : World} (h : Ke K A B) (g : Ke K B C) : Ke K A C := fun k hk => (g k hk).trans (h k hk)
theorem Ke.cell {K : Nat → Prop} {A B : World} (h : Ke K A B) {k : Nat} (hk : K k) (i : Nat) : B.cell? ⟨k, i, none⟩ = A.cell? ⟨k, i, none⟩ := by
  have := h k hk
  simp [World.cell?, this]
end Go.Proofs.YtjmkhdhffmlhiaaDoor.PAll
end
section
namespace Go.Proofs.YtjmkhdhffmlhiaaDoor.PAll
set_option linter.unusedVariables false
open Go.RowKit Go.Proofs.YtjmkhdhffmlhiaaDoorW.PrintWords Go.Proofs.YtjmkhdhffmlhiaaDoorW.PrintLast Go.Proofs.YtjmkhdhffmlhiaaDoorW.PrintMore
end Go.Proofs.YtjmkhdhffmlhiaaDoor.PAll
end
section
namespace Go.Proofs.YtjmkhdhffmlhiaaDoor.PAll
set_option linter.unusedVariables false
open Go.RowKit Go.Shelf Go.Proofs.YtjmkhdhffmlhiaaDoorW.PrintWords Go.Proofs.YtjmkhdhffmlhiaaDoorW.PrintLast Go.Proofs.YtjmkhdhffmlhiaaDoorW.PrintMore
attribute [local go_sem] Oper.semAt_some
end Go.Proofs.YtjmkhdhffmlhiaaDoor.PAll
end
section
namespace Go.Proofs.YtjmkhdhffmlhiaaDoor.PAll
set_option linter.unusedVariables false
open Go.RowKit Go.Shelf Go.Proofs.YtjmkhdhffmlhiaaDoorW.PrintWords Go.Proofs.YtjmkhdhffmlhiaaDoorW.PrintLast Go.Proofs.YtjmkhdhffmlhiaaDoorW.PrintMore
attribute [local go_sem] Oper.semAt_some
end Go.Proofs.YtjmkhdhffmlhiaaDoor.PAll
end
section
namespace Go.Proofs.YtjmkhdhffmlhiaaDoor.PAll
open Go.RowKit Go.Proofs.YtjmkhdhffmlhiaaDoorW.PrintWords Go.Proofs.YtjmkhdhffmlhiaaDoorW.PrintLast Go.Proofs.YtjmkhdhffmlhiaaDoorW.PrintMore
attribute [local go_sem] max2_int min2_int max_two min_two max_three min_three max_four min_four w64_u8 w64_mod256   -- for this text's walks alone
set_option linter.unusedVariables false
set_option linter.unusedSimpArgs false
end Go.Proofs.YtjmkhdhffmlhiaaDoor.PAll
end
section
namespace Go.Proofs.YtjmkhdhffmlhiaaDoor.PAll
open Go.RowKit Go.Proofs.YtjmkhdhffmlhiaaDoorW.PrintWords Go.Proofs.YtjmkhdhffmlhiaaDoorW.PrintLast Go.Proofs.YtjmkhdhffmlhiaaDoorW.PrintMore
attribute [local go_sem] max2_int min2_int max_two min_two max_three min_three max_four min_four w64_u8 w64_mod256   -- for this text's walks alone
set_option linter.unusedVariables false
set_option linter.unusedSimpArgs false
end Go.Proofs.YtjmkhdhffmlhiaaDoor.PAll
end
section
namespace Go.Proofs.YtjmkhdhffmlhiaaDoor.PAll
open Go.RowKit Go.Proofs.YtjmkhdhffmlhiaaDoorW.PrintWords Go.Proofs.YtjmkhdhffmlhiaaDoorW.PrintLast Go.Proofs.YtjmkhdhffmlhiaaDoorW.PrintMore
attribute [local go_sem] max2_int min2_int max_two min_two max_three min_three max_four min_four w64_u8 w64_mod256   -- for this text's walks alone
set_option linter.unusedVariables false
set_option linter.unusedSimpArgs false
end Go.Proofs.YtjmkhdhffmlhiaaDoor.PAll
end
section
namespace Go.Proofs.YtjmkhdhffmlhiaaDoor.PAll
open Go.RowKit Go.Proofs.YtjmkhdhffmlhiaaDoorW.PrintWords Go.Proofs.YtjmkhdhffmlhiaaDoorW.PrintLast Go.Proofs.YtjmkhdhffmlhiaaDoorW.PrintMore
attribute [local go_sem] max2_int min2_int max_two min_two max_three min_three max_four min_four w64_u8 w64_mod256   -- for this text's walks alone
set_option linter.unusedVariables false
set_option linter.unusedSimpArgs false
end Go.Proofs.YtjmkhdhffmlhiaaDoor.PAll
end
section
namespace Go.Proofs.YtjmkhdhffmlhiaaDoor.PAll
set_option linter.unusedVariables false
open Go.RowKit Go.Proofs.YtjmkhdhffmlhiaaDoorW.PrintWords Go.Proofs.YtjmkhdhffmlhiaaDoorW.PrintMore
theorem has_eq {n : Int} {ws : List Int} {e : Nat} (hw : Wds ws) (he : e / 64 < ws.length) (hb1 : e < 1000000) : bitset_has.f n ws (e : Int) = some (hb ws e) := by
  unfold bitset_has.f
  have hwx := hw.getD (e / 64)
  rw [tdiv_nat, tmod_nat, w64_nat (n := ((e / 64 : Nat) : Int)) (by omega) (by omega), if_pos (by omega), if_pos (by omega), if_pos (by omega), rd_nat, shr_eq hwx (by omega) (by omega), Int.toNat_natCast]
  unfold hb tb
  generalize ws.getD (e / 64) 0 = q at hwx ⊢
  have hlt2 : q.toNat >>> (e % 64) < 2 ^ 64 := Nat.lt_of_le_of_lt (by rw [Nat.shiftRight_eq_div_pow]; exact Nat.div_le_self _ _) hwx.nat.1
  have h6 := and_nat _ 1 hlt2 (by omega)
  rw [show (((1 : Nat) : Int)) = 1 from rfl] at h6
  rw [h6, Nat.and_one_is_mod]
  congr 1
  rw [show Nat.testBit q.toNat (e % 64) = Nat.testBit (q.toNat >>> (e % 64)) 0 by rw [Nat.testBit_shiftRight, Nat.add_zero], Nat.testBit_zero]
  generalize q.toNat >>> (e % 64) = y
  rcases Nat.mod_two_eq_zero_or_one y with h | h <;> simp [h]
theorem mem_els {N : Nat} {ws : List Int} {x : Int} : x ∈ els N ws ↔ ∃ j : Nat, j < N ∧ hb ws j = true ∧ x = (j : Int) := by
  unfold els
  simp only [List.mem_map, List.mem_filter, List.mem_range]
  constructor
  · rintro ⟨j, ⟨h1, h2⟩, rfl⟩; exact ⟨j, h1, h2, rfl⟩
  · rintro ⟨j, h1, h2, rfl⟩; exact ⟨j, ⟨h1, h2⟩, rfl⟩
end Go.Proofs.YtjmkhdhffmlhiaaDoor.PAll
end
section
namespace Go.Proofs.YtjmkhdhffmlhiaaDoor.PAll
open Go.RowKit Go.Proofs.YtjmkhdhffmlhiaaDoorW.PrintWords Go.Proofs.YtjmkhdhffmlhiaaDoorW.PrintLast Go.Proofs.YtjmkhdhffmlhiaaDoorW.PrintMore
attribute [local go_sem] max2_int min2_int max_two min_two max_three min_three max_four min_four w64_u8 w64_mod256   -- for this text's walks alone
set_option linter.unusedVariables false
set_option linter.unusedSimpArgs false
def bitset_blanks.l0 : Nat → Int → Int → Int → Int → List (S24) → Option (Int × (List (S24)))
  | 0, _, _, _, _, _ => none
  | k + 1, x0, x8, x9, x103000, x103001 => if x9 < x8 then ((bitset_blank.f x0).bind fun bt103 => (if x103001.length < 4398046511104 then (bitset_blanks.l0 k x0 x8 (wrap64 (x9 + 1)) x103000 (x103001 ++ [(⟨bt103.1, bt103.2⟩ : S24)])) else (none))) else (some (x103000, x103001))
def bitset_blanks.f (k : Nat) (a0 : Int) (a1 : Int) : Option (Int × (List (S24))) := bitset_blanks.l0 k a0 a1 0 a0 ([] : List (S24))
theorem bitset_blanks.mono_l : ∀ k, (∀ y0 y1 y2 y3 y4, LeO (bitset_blanks.l0 k y0 y1 y2 y3 y4) (bitset_blanks.l0 (k + 1) y0 y1 y2 y3 y4))
  | 0 => fun _ _ _ _ _ r h => by simp [bitset_blanks.l0] at h
  | k + 1 => by
    have ih0 := bitset_blanks.mono_l k
    · intro y0 y1 y2 y3 y4
      unfold bitset_blanks.l0
      repeat' first
      | (with_reducible exact ih0 _ _ _ _ _)
      | (with_reducible exact LeO.refl _)
      | (with_reducible exact LeO.none _)
      | (with_reducible refine LeO.ite ?_ ?_)
      | (with_reducible refine LeO.bind ?_ (fun _ => ?_))
      | exact ih0 _ _ _ _ _
      | exact LeO.none _
      | refine LeO.ite ?_ ?_
      | refine LeO.bind ?_ (fun _ => ?_)
theorem bitset_blanks.mono : ∀ a0 a1 k, LeO (bitset_blanks.f k a0 a1) (bitset_blanks.f (k + 1) a0 a1) := by
  intro a0 a1 k
  have ih0 := bitset_blanks.mono_l k
  unfold bitset_blanks.f
  repeat' first
      | (with_reducible exact ih0 _ _ _ _ _)
      | (with_reducible exact LeO.refl _)
      | (with_reducible exact LeO.none _)
      | (with_reducible refine LeO.ite ?_ ?_)
      | (with_reducible refine LeO.bind ?_ (fun _ => ?_))
      | exact ih0 _ _ _ _ _
      | exact LeO.none _
      | refine LeO.ite ?_ ?_
      | refine LeO.bind ?_ (fun _ => ?_)
end Go.Proofs.YtjmkhdhffmlhiaaDoor.PAll
end
section
namespace Go.Proofs.YtjmkhdhffmlhiaaDoor.PAll
set_option linter.unusedVariables false
set_option linter.unusedSimpArgs false
open Go.RowKit Go.Shelf Go.Proofs.YtjmkhdhffmlhiaaDoorW.PrintWords Go.Proofs.YtjmkhdhffmlhiaaDoorW.PrintLast Go.Proofs.YtjmkhdhffmlhiaaDoorW.PrintMore
attribute [local go_sem] Oper.semAt_some
def Marks (B : Nat) (W : World) (ds : List Deferred) : Prop :=
  ∃ Ds : List Nat, ds = Ds.map (fun D => { target := .collected D, args := #[] }) ∧ Ds.Nodup ∧ ∀ D ∈ Ds, B ≤ D ∧ W.heap[D]? = some (.deferred (some []))
theorem Marks.none (B : Nat) (W : World) : Marks B W [] := ⟨[], rfl, List.nodup_nil, fun _ h => by cases h⟩
theorem Marks.low {B B' : Nat} {W : World} {ds : List Deferred} (h : Marks B W ds) (hB : B' ≤ B) : Marks B' W ds := by
  obtain ⟨Ds, h1, h2, h3⟩ := h
  exact ⟨Ds, h1, h2, fun D hD => ⟨Nat.le_trans hB (h3 D hD).1, (h3 D hD).2⟩⟩
theorem Marks.cons {B D : Nat} {W W' : World} {ds : List Deferred} (h : Marks B W ds) (hk : ∀ k, B ≤ k → k < W.heap.size → W'.heap[k]? = W.heap[k]?) (hD : W.heap.size ≤ D) (hB : B ≤ D) (hW : W'.heap[D]? = some (.deferred (some []))) : Marks B W' ({ target := .collected D, args := #[] } :: ds) := by
  obtain ⟨Ds, h1, h2, h3⟩ := h
  refine ⟨D :: Ds, by rw [h1]; rfl, List.nodup_cons.2 ⟨fun hm => ?_, h2⟩, fun D' hm => ?_⟩
  · have := blk_lt (h3 D hm).2; omega
  · rcases List.mem_cons.1 hm with rfl | hm
    · exact ⟨hB, hW⟩
    · exact ⟨(h3 D' hm).1, (hk D' (h3 D' hm).1 (blk_lt (h3 D' hm).2)).trans (h3 D' hm).2⟩
theorem leave_marks {F : Fence} {n : Nat} {P : Program} {fn : Func} {tmps : Array Value} {R : Ending → World → Prop} {B : Nat} : ∀ (Ds : List Nat) (W : World), Ds.Nodup → (∀ D ∈ Ds, B ≤ D ∧ W.heap[D]? = some (.deferred (some []))) →
    (∀ W', Below B W W' → (∀ k, k ∉ Ds → W'.heap[k]? = W.heap[k]?) → LeavesInM F n P fn tmps R [] .returning W') → LeavesInM F n P fn tmps R (Ds.map (fun D => { target := .collected D, args := #[] })) .returning W
  | [], W, _, _, h => h W (Below.refl _ _) (fun _ _ => rfl)
  | D :: Ds, W, hn, hD, h => by
    obtain ⟨n1, n2⟩ := List.nodup_cons.1 hn
    obtain ⟨b1, b2⟩ := hD D List.mem_cons_self
    refine ⟨by simp, .inl ⟨D, _, rfl, run_takeDeferred b2, ?_⟩⟩
    refine leave_marks Ds _ n2 (fun D' hm => ⟨(hD D' (List.mem_cons_of_mem _ hm)).1, (World.putObj_heap_other (by rintro rfl; exact n1 hm)).trans (hD D' (List.mem_cons_of_mem _ hm)).2⟩) (fun W' hb hk => h W' ?_ fun k hm => ?_)
    · exact ((Below.refl B W).grown (grownBy_putObj' W D (.deferred none)) (Nat.le_trans b1 (Nat.le_of_lt (blk_lt b2))) (fun k e => by cases e; exact b1)).trans hb
    · exact (hk k (fun hh => hm (List.mem_cons_of_mem _ hh))).trans (World.putObj_heap_other (by rintro rfl; exact hm List.mem_cons_self))
theorem Marks.leave {F : Fence} {n : Nat} {P : Program} {fn : Func} {tmps : Array Value} {R : Ending → World → Prop} {B : Nat} {W : World} {ds : List Deferred} (h : Marks B W ds)
    (hr : ∀ W', Below B W W' → (∀ (k : Nat) (o : Obj), W.heap[k]? = some o → o.isCells = true → W'.heap[k]? = some o) → LeavesInM F n P fn tmps R [] .returning W') : LeavesInM F n P fn tmps R ds .returning W := by
  obtain ⟨Ds, rfl, h2, h3⟩ := h
  refine leave_marks Ds W h2 h3 fun W' hb hk => hr W' hb fun k o ho hc => (hk k fun hm => ?_).trans ho
  have := (h3 k hm).2
  rw [ho] at this; cases this; cases hc
def turnS (i : Nat) (rows : List S24) (x : Int) : List S24 := rows.set x.toNat ⟨(rd_T24 rows x).f0, putw (rd_T24 rows x).f1 i⟩
def turnA : Nat → List S24 → List S24 → List S24
  | _, [], rows => rows
  | i, s :: l, rows => turnA (i + 1) l ((els (64 * s.f1.length) s.f1).foldl (turnS i) rows)
def Rok (n m : Nat) (rows : List S24) : Prop := rows.length = n ∧ ∀ r ∈ rows, r.f1.length = (m + 63) / 64
theorem rdT_nat (rows : List S24) {j : Nat} (h : j < rows.length) : rd_T24 rows (j : Int) = rows[j] := by simp [rd_T24, List.getD_eq_getElem?_getD, List.getElem?_eq_getElem h]
theorem Rok.turn {n m i : Nat} {rows : List S24} (h : Rok n m rows) {x : Int} (h0 : 0 ≤ x) (h1 : x < n) : Rok n m (turnS i rows x) := by
  obtain ⟨j, rfl⟩ := Int.eq_ofNat_of_zero_le h0
  have hj : j < rows.length := by rw [h.1]; omega
  refine ⟨by unfold turnS; rw [List.length_set, h.1], fun r hr => ?_⟩
  unfold turnS at hr
  rcases List.mem_or_eq_of_mem_set hr with hr | rfl
  · exact h.2 r hr
  · simp only [putw_length]
    rw [rdT_nat rows hj]
    exact h.2 _ (List.getElem_mem hj)
theorem Rok.turns {n m i : Nat} : ∀ (xs : List Int) {rows : List S24}, Rok n m rows → (∀ x ∈ xs, 0 ≤ x ∧ x < n) → Rok n m (xs.foldl (turnS i) rows)
  | [], _, h, _ => h
  | x :: xs, _, h, hx => Rok.turns xs (h.turn (hx x List.mem_cons_self).1 (hx x List.mem_cons_self).2) (fun y hy => hx y (List.mem_cons_of_mem _ hy))
theorem els_in {n : Nat} {ws : List Int} (hM : MayP (n : Int) ws) {x : Int} (hx : x ∈ els (64 * ws.length) ws) : 0 ≤ x ∧ x < n := by
  obtain ⟨j, j1, j2, rfl⟩ := mem_els.1 hx
  have hj : j < n := Nat.lt_of_not_le fun hle => by rw [hM.2.2.2 j (by omega)] at j2; cases j2
  omega
end Go.Proofs.YtjmkhdhffmlhiaaDoor.PAll
end
section
namespace Go.Proofs.YtjmkhdhffmlhiaaDoor.PAll
set_option linter.unusedVariables false
open Go.RowKit Go.Shelf Go.Proofs.YtjmkhdhffmlhiaaDoorW.PrintWords Go.Proofs.YtjmkhdhffmlhiaaDoorW.PrintLast Go.Proofs.YtjmkhdhffmlhiaaDoorW.PrintMore
def RowsAre (n m : Nat) (p : Nat → Nat → Bool) (rows : List S24) : Prop := rows.length = n ∧ ∀ (x : Nat) (h : x < rows.length), rows[x].f0 = (m : Int) ∧ Is m (p x) rows[x].f1
theorem RowsAre.congr {n m : Nat} {p q : Nat → Nat → Bool} {rows : List S24} (h : RowsAre n m p rows) (hpq : ∀ x, x < n → ∀ j, j < m → p x j = q x j) : RowsAre n m q rows :=
  ⟨h.1, fun x hx => ⟨(h.2 x hx).1, (h.2 x hx).2.congr (hpq x (h.1 ▸ hx))⟩⟩
theorem RowsAre.set {n m : Nat} {p : Nat → Nat → Bool} {rows : List S24} (h : RowsAre n m p rows) {y : Nat} (q : Nat → Bool) {f0 : Int} {ws : List Int} (h0 : f0 = (m : Int)) (hq : Is m q ws) : RowsAre n m (fun x j => if x = y then q j else p x j) (rows.set y ⟨f0, ws⟩) := by
  refine ⟨by rw [List.length_set, h.1], fun x hx => ?_⟩
  have hx' : x < rows.length := by rwa [List.length_set] at hx
  by_cases hxy : x = y
  · subst hxy
    simp only [List.getElem_set_self, if_pos]
    exact ⟨h0, hq⟩
  · rw [List.getElem_set_ne (fun e => hxy e.symm)]
    simp only [hxy, if_false]
    exact h.2 x hx'
theorem RowsAre.turn {n m : Nat} {p : Nat → Nat → Bool} {rows : List S24} (h : RowsAre n m p rows) {y i : Nat} (hy : y < n) (hi : i < m) : RowsAre n m (fun x j => p x j || (decide (x = y) && decide (j = i))) (turnS i rows (y : Int)) := by
  have hyl : y < rows.length := by rw [h.1]; exact hy
  unfold turnS
  rw [rdT_nat rows hyl, Int.toNat_natCast]
  obtain ⟨a1, a2⟩ := h.2 y hyl
  refine (h.set _ a1 (a2.put hi)).congr fun x _ j _ => ?_
  by_cases hxy : x = y
  · subst hxy; simp
  · simp [hxy]
theorem RowsAre.turns {n m : Nat} {i : Nat} (hi : i < m) : ∀ (xs : List Int) {p : Nat → Nat → Bool} {rows : List S24}, RowsAre n m p rows → (∀ z ∈ xs, 0 ≤ z ∧ z < n) → RowsAre n m (fun x j => p x j || (decide ((x : Int) ∈ xs) && decide (j = i))) (xs.foldl (turnS i) rows)
  | [], p, rows, h, _ => h.congr fun x _ j _ => by simp
  | z :: xs, p, rows, h, hz => by
    obtain ⟨y, rfl⟩ := Int.eq_ofNat_of_zero_le (hz z List.mem_cons_self).1
    have hy : y < n := by have := (hz _ List.mem_cons_self).2; omega
    refine (RowsAre.turns hi xs (h.turn hy hi) (fun z h => hz z (List.mem_cons_of_mem _ h))).congr fun x _ j _ => ?_
    have e : ((x : Int) = (y : Int)) ↔ x = y := by omega
    simp only [List.mem_cons, e, Bool.decide_or]
    generalize p x j = a1
    generalize decide (x = y) = a2
    generalize decide (j = i) = a3
    generalize decide ((x : Int) ∈ xs) = a4
    revert a1 a2 a3 a4
    decide
theorem els_mem {n : Nat} {ws : List Int} {x : Nat} : decide ((x : Int) ∈ els (64 * ws.length) ws) = hb ws x := by
  rw [Bool.eq_iff_iff, decide_eq_true_iff, mem_els]
  constructor
  · rintro ⟨j, _, j2, j3⟩
    rw [show x = j by omega]; exact j2
  · intro h
    exact ⟨x, Nat.lt_of_not_le (fun hle => by rw [hb_high hle] at h; cases h), h, rfl⟩
theorem RowsAre.turnA {n m : Nat} : ∀ (l : List S24) (i : Nat) {p : Nat → Nat → Bool} {rows : List S24}, RowsAre n m p rows → i + l.length ≤ m → (∀ s ∈ l, MayP (n : Int) s.f1) → RowsAre n m (fun x j => p x j || (decide (i ≤ j) && hb (l.getD (j - i) ⟨0, []⟩).f1 x)) (turnA i l rows)
  | [], i, p, rows, h, _, _ => h.congr fun x _ j _ => by simp [hb_high]
  | s :: l, i, p, rows, h, hi, hm => by
    simp only [List.length_cons] at hi
    have h1 := RowsAre.turns (i := i) (by omega) (els (64 * s.f1.length) s.f1) h (fun z hz => els_in (hm s List.mem_cons_self) hz)
    refine (RowsAre.turnA l (i + 1) h1 (by omega) (fun s hs => hm s (List.mem_cons_of_mem _ hs))).congr fun x _ j _ => ?_
    rw [els_mem (n := n)]
    by_cases hj : j = i
    · subst hj
      have e1 : ¬ (j + 1 ≤ j) := by omega
      have e2 : j - j = 0 := by omega
      rw [e2]
      simp only [e1, Nat.le_refl, List.getD_cons_zero, decide_true, decide_false, Bool.and_true, Bool.true_and, Bool.false_and, Bool.or_false]
    · by_cases hij : i ≤ j
      · have h2 : i + 1 ≤ j := by omega
        obtain ⟨d, rfl⟩ : ∃ d, j = i + 1 + d := ⟨j - (i + 1), by omega⟩
        have e1 : i + 1 + d - (i + 1) = d := by omega
        have e2 : i + 1 + d - i = d + 1 := by omega
        rw [e1, e2]
        simp [hj, hij]
      · have h2 : ¬ i + 1 ≤ j := by omega
        simp [hj, hij, h2]
theorem RowsAre.of {n : Int} {l : List S24} (hT : TabP n l) (hg : Goods l) : RowsAre l.length n.toNat (fun x j => hb (l.getD x ⟨0, []⟩).f1 j) l := by
  refine ⟨rfl, fun x hx => ?_⟩
  have h1 := hT.2.2.2 _ (List.getElem_mem hx)
  have h2 := h1.1
  unfold MayS at h2
  rw [h1.2] at h2
  refine ⟨by rw [h1.2]; have := hT.1; omega, ?_⟩
  have e : l.getD x ⟨0, []⟩ = l[x] := by simp [List.getD_eq_getElem?_getD, List.getElem?_eq_getElem hx]
  show Is n.toNat (fun j => hb (l.getD x ⟨0, []⟩).f1 j) l[x].f1
  rw [e]
  exact h2.is (hg _ (List.getElem_mem hx)).1
theorem RowsAre.tab {n m : Nat} {p : Nat → Nat → Bool} {rows : List S24} (h : RowsAre n m p rows) (hn : n ≤ 4096) (hm : m ≤ 4096) : TabP (m : Int) rows ∧ Goods rows := by
  refine ⟨⟨by omega, by omega, by rw [h.1]; exact hn, fun x hx => ?_⟩, fun x hx => ?_⟩
  · obtain ⟨i, hi, rfl⟩ := List.getElem_of_mem hx
    refine ⟨?_, (h.2 i hi).1⟩
    unfold MayS
    rw [(h.2 i hi).1]
    exact (h.2 i hi).2.may hm
  · obtain ⟨i, hi, rfl⟩ := List.getElem_of_mem hx
    have := (h.2 i hi).2
    exact ⟨this.wds, by have := this.len; omega⟩
end Go.Proofs.YtjmkhdhffmlhiaaDoor.PAll
end
section
namespace Go.Proofs.YtjmkhdhffmlhiaaDoor.PAll
set_option linter.unusedVariables false
set_option linter.unusedSimpArgs false
open Go.RowKit Go.Shelf Go.Proofs.YtjmkhdhffmlhiaaDoorW.PrintWords Go.Proofs.YtjmkhdhffmlhiaaDoorW.PrintLast Go.Proofs.YtjmkhdhffmlhiaaDoorW.PrintMore
attribute [local go_sem] Oper.semAt_some
instance instDecWd (x : Int) : Decidable (Wd x) := inferInstanceAs (Decidable (0 ≤ x ∧ x < 18446744073709551616))
instance instDecWds (ws : List Int) : Decidable (Wds ws) := inferInstanceAs (Decidable (∀ x ∈ ws, Wd x))
instance instDecGoods (l : List S24) : Decidable (Goods l) := inferInstanceAs (Decidable (∀ x ∈ l, Wds x.f1 ∧ x.f1.length ≤ 9223372036854775807))
def bitset_Turn.f (k : Nat) (a0_0 : Int) (l0_1 : List S24) : Option (Int × List S24 × Int) :=
  if Goods l0_1 ∧ l0_1.length ≤ 9223372036854775807 then (bitset_MayTable.f k a0_0 l0_1).bind fun b => if b = true then (bitset_blanks.f k (l0_1.length : Int) a0_0).bind fun t => some (t.1, turnA 0 l0_1 t.2, 0) else some (0, [], 61) else none
theorem bitset_Turn.mono : ∀ a0_0 l0_1 k, LeO (bitset_Turn.f k a0_0 l0_1) (bitset_Turn.f (k + 1) a0_0 l0_1) := by
  intro a l k
  unfold bitset_Turn.f
  split
  · exact LeO.bind (bitset_MayTable.mono _ _ _) fun b => LeO.ite (LeO.bind (bitset_blanks.mono _ _ _) fun t => LeO.refl _) (LeO.refl _)
  · exact LeO.none _
end Go.Proofs.YtjmkhdhffmlhiaaDoor.PAll
end
section
namespace Go.Proofs.YtjmkhdhffmlhiaaDoor.PAll
set_option linter.unusedVariables false
open Go.Proofs.YtjmkhdhffmlhiaaDoorW.PrintWords Go.Proofs.YtjmkhdhffmlhiaaDoorW.PrintLast
end Go.Proofs.YtjmkhdhffmlhiaaDoor.PAll
end
section
namespace Go.Proofs.YtjmkhdhffmlhiaaDoor.PAll
open Go.RowKit Go.Proofs.YtjmkhdhffmlhiaaDoorW.PrintWords Go.Proofs.YtjmkhdhffmlhiaaDoorW.PrintLast Go.Proofs.YtjmkhdhffmlhiaaDoorW.PrintMore
attribute [local go_sem] max2_int min2_int max_two min_two max_three min_three max_four min_four w64_u8 w64_mod256   -- for this text's walks alone
set_option linter.unusedVariables false
set_option linter.unusedSimpArgs false
end Go.Proofs.YtjmkhdhffmlhiaaDoor.PAll
end
section
namespace Go.Proofs.YtjmkhdhffmlhiaaDoor.PAll
open Go.RowKit Go.Proofs.YtjmkhdhffmlhiaaDoorW.PrintWords Go.Proofs.YtjmkhdhffmlhiaaDoorW.PrintLast Go.Proofs.YtjmkhdhffmlhiaaDoorW.PrintMore
attribute [local go_sem] max2_int min2_int max_two min_two max_three min_three max_four min_four w64_u8 w64_mod256   -- for this text's walks alone
set_option linter.unusedVariables false
set_option linter.unusedSimpArgs false
end Go.Proofs.YtjmkhdhffmlhiaaDoor.PAll
end
section
namespace Go.Proofs.YtjmkhdhffmlhiaaDoor.PAll
open Go.RowKit Go.Proofs.YtjmkhdhffmlhiaaDoorW.PrintWords Go.Proofs.YtjmkhdhffmlhiaaDoorW.PrintLast Go.Proofs.YtjmkhdhffmlhiaaDoorW.PrintMore
attribute [local go_sem] max2_int min2_int max_two min_two max_three min_three max_four min_four w64_u8 w64_mod256   -- for this text's walks alone
set_option linter.unusedVariables false
set_option linter.unusedSimpArgs false
end Go.Proofs.YtjmkhdhffmlhiaaDoor.PAll
end
section
namespace Go.Proofs.YtjmkhdhffmlhiaaDoor.PAll
open Go.RowKit Go.Proofs.YtjmkhdhffmlhiaaDoorW.PrintWords Go.Proofs.YtjmkhdhffmlhiaaDoorW.PrintLast Go.Proofs.YtjmkhdhffmlhiaaDoorW.PrintMore
attribute [local go_sem] max2_int min2_int max_two min_two max_three min_three max_four min_four w64_u8 w64_mod256   -- for this text's walks alone
set_option linter.unusedVariables false
set_option linter.unusedSimpArgs false
end Go.Proofs.YtjmkhdhffmlhiaaDoor.PAll
end
section
namespace Go.Proofs.YtjmkhdhffmlhiaaDoor.PAll
open Go.RowKit Go.Proofs.YtjmkhdhffmlhiaaDoorW.PrintWords Go.Proofs.YtjmkhdhffmlhiaaDoorW.PrintLast Go.Proofs.YtjmkhdhffmlhiaaDoorW.PrintMore
def foldw (g : Int → Int → Int) (b ws : List Int) : Option (List Int) :=
  if ws.length ≤ b.length then some (List.zipWith g b ws ++ b.drop ws.length) else none
def folds (g : Int → Int → Int) : List Int → List S24 → Option (List Int)
  | b, [] => some b
  | b, s :: l => (foldw g b s.f1).bind fun c => folds g c l
theorem foldw_length {g : Int → Int → Int} {b ws c : List Int} (h : foldw g b ws = some c) : c.length = b.length := by
  unfold foldw at h
  split at h
  · cases h; simp; omega
  · cases h
def bitset_fold_or.f (a0_0 : Int) (l0_1 : List Int) (l1 : List S24) (_a2 : Unit) : Option (Int × List Int) := (folds (Go.bits .or .u64) l0_1 l1).map fun r => (a0_0, r)
def bitset_fold_andNot.f (a0_0 : Int) (l0_1 : List Int) (l1 : List S24) (_a2 : Unit) : Option (Int × List Int) := (folds (Go.bits .andNot .u64) l0_1 l1).map fun r => (a0_0, r)
end Go.Proofs.YtjmkhdhffmlhiaaDoor.PAll
end
section
namespace Go.Proofs.YtjmkhdhffmlhiaaDoor.PAll
set_option linter.unusedVariables false
set_option linter.unusedSimpArgs false
open Go.RowKit Go.Shelf Go.Proofs.YtjmkhdhffmlhiaaDoorW.PrintWords Go.Proofs.YtjmkhdhffmlhiaaDoorW.PrintLast Go.Proofs.YtjmkhdhffmlhiaaDoorW.PrintMore
attribute [local go_sem] Oper.semAt_some
def orw (b ws : List Int) : List Int := List.zipWith (Go.bits .or .u64) b ws ++ b.drop ws.length
theorem orw_eq {b ws : List Int} (h : ws.length ≤ b.length) : foldw (Go.bits .or .u64) b ws = some (orw b ws) := by unfold foldw orw; rw [if_pos h]
theorem orw_length {b ws : List Int} (h : ws.length ≤ b.length) : (orw b ws).length = b.length := foldw_length (orw_eq h)
def prodS (lb : List S24) (j : Nat) (rows : List S24) (e : Int) : List S24 := rows.set j ⟨(rd_T24 rows (j : Int)).f0, orw (rd_T24 rows (j : Int)).f1 (rd_T24 lb e).f1⟩
def prodA (lb : List S24) : Nat → List S24 → List S24 → List S24
  | _, [], rows => rows
  | j, s :: l, rows => prodA lb (j + 1) l ((els (64 * s.f1.length) s.f1).foldl (prodS lb j) rows)
theorem Rok.prod {n m j : Nat} {lb rows : List S24} (h : Rok n m rows) (hj : j < n) (hb : ∀ s ∈ lb, s.f1.length = (m + 63) / 64) {x : Int} (h0 : 0 ≤ x) (h1 : x < lb.length) : Rok n m (prodS lb j rows x) := by
  obtain ⟨e, rfl⟩ := Int.eq_ofNat_of_zero_le h0
  have he : e < lb.length := by omega
  have hjl : j < rows.length := by rw [h.1]; exact hj
  refine ⟨by unfold prodS; rw [List.length_set, h.1], fun r hr => ?_⟩
  unfold prodS at hr
  rcases List.mem_or_eq_of_mem_set hr with hr | rfl
  · exact h.2 r hr
  · rw [rdT_nat rows hjl, rdT_nat lb he]
    have a1 := h.2 _ (List.getElem_mem hjl)
    have a2 := hb _ (List.getElem_mem he)
    simp only
    rw [orw_length (by omega)]
    exact a1
theorem Rok.prods {n m j : Nat} {lb : List S24} (hj : j < n) (hb : ∀ s ∈ lb, s.f1.length = (m + 63) / 64) : ∀ (xs : List Int) {rows : List S24}, Rok n m rows → (∀ x ∈ xs, 0 ≤ x ∧ x < lb.length) → Rok n m (xs.foldl (prodS lb j) rows)
  | [], _, h, _ => h
  | x :: xs, _, h, hx => Rok.prods hj hb xs (h.prod hj hb (hx x List.mem_cons_self).1 (hx x List.mem_cons_self).2) (fun y hy => hx y (List.mem_cons_of_mem _ hy))
end Go.Proofs.YtjmkhdhffmlhiaaDoor.PAll
end
section
namespace Go.Proofs.YtjmkhdhffmlhiaaDoor.PAll
set_option linter.unusedVariables false
set_option linter.unusedSimpArgs false
open Go.RowKit Go.Shelf Go.Proofs.YtjmkhdhffmlhiaaDoorW.PrintWords Go.Proofs.YtjmkhdhffmlhiaaDoorW.PrintLast Go.Proofs.YtjmkhdhffmlhiaaDoorW.PrintMore
attribute [local go_sem] Oper.semAt_some
end Go.Proofs.YtjmkhdhffmlhiaaDoor.PAll
end
section
namespace Go.Proofs.YtjmkhdhffmlhiaaDoor.PAll
open Go.RowKit Go.Proofs.YtjmkhdhffmlhiaaDoorW.PrintWords Go.Proofs.YtjmkhdhffmlhiaaDoorW.PrintMore
structure Bitly (g : Int → Int → Int) (f : Bool → Bool → Bool) : Prop where
  wd : ∀ a b, Wd a → Wd b → Wd (g a b)
  tb : ∀ a b j, Wd a → Wd b → tb (g a b) j = f (tb a j) (tb b j)
  ff : f false false = false
theorem bitly_or : Bitly (Go.bits .or .u64) (fun a b => a || b) := ⟨fun a b _ _ => (or_eq a b).2, fun _ _ j ha hb => tb_or ha hb j, rfl⟩
theorem hb_zip {g : Int → Int → Int} {f : Bool → Bool → Bool} (h : Bitly g f) {b ws : List Int} (hb' : Wds b) (hw : Wds ws) (hl : ws.length = b.length) (e : Nat) : hb (List.zipWith g b ws) e = f (hb b e) (hb ws e) := by
  rcases Nat.lt_or_ge (e / 64) b.length with h1 | h1
  · have h2 : (List.zipWith g b ws).getD (e / 64) 0 = g (b.getD (e / 64) 0) (ws.getD (e / 64) 0) := by
      rw [List.getD_eq_getElem?_getD, List.getD_eq_getElem?_getD, List.getD_eq_getElem?_getD, List.getElem?_zipWith, List.getElem?_eq_getElem h1, List.getElem?_eq_getElem (by omega)]
      rfl
    unfold hb
    rw [h2, h.tb _ _ _ (hb'.getD _) (hw.getD _)]
  · rw [hb_high (ws := b) (by omega), hb_high (ws := ws) (by omega), hb_high (by rw [List.length_zipWith]; omega), h.ff]
theorem zip_Wds {g : Int → Int → Int} {f : Bool → Bool → Bool} (h : Bitly g f) {b ws : List Int} (hb' : Wds b) (hw : Wds ws) : Wds (List.zipWith g b ws) := by
  intro x hx
  obtain ⟨i, hi, rfl⟩ := List.getElem_of_mem hx
  rw [List.getElem_zipWith]
  rw [List.length_zipWith] at hi
  exact h.wd _ _ (hb' _ (List.getElem_mem _)) (hw _ (List.getElem_mem _))
theorem foldw_is {g : Int → Int → Int} {f : Bool → Bool → Bool} (h : Bitly g f) {n : Nat} {p q : Nat → Bool} {b ws : List Int} (hb' : Is n p b) (hw : Is n q ws) : ∃ c, foldw g b ws = some c ∧ Is n (fun d => f (p d) (q d)) c := by
  have hl : ws.length = b.length := by rw [hw.len, hb'.len]
  refine ⟨List.zipWith g b ws, ?_, ?_, zip_Wds h hb'.wds hw.wds, fun e => ?_⟩
  · unfold foldw
    rw [if_pos (by omega), List.drop_eq_nil_of_le (by omega), List.append_nil]
  · rw [List.length_zipWith, hl, Nat.min_self, hb'.len]
  · rw [hb_zip h hb'.wds hw.wds hl, hb'.has, hw.has]
    by_cases he : e < n
    · simp [he]
    · simp [he, h.ff]
end Go.Proofs.YtjmkhdhffmlhiaaDoor.PAll
end
section
namespace Go.Proofs.YtjmkhdhffmlhiaaDoor.PAll
set_option linter.unusedVariables false
set_option linter.unusedSimpArgs false
open Go.RowKit Go.Shelf Go.Proofs.YtjmkhdhffmlhiaaDoorW.PrintWords Go.Proofs.YtjmkhdhffmlhiaaDoorW.PrintLast Go.Proofs.YtjmkhdhffmlhiaaDoorW.PrintMore
attribute [local go_sem] Oper.semAt_some
def bitset_Product.f (k : Nat) (a0_0 : Int) (l0_1 : List S24) (a1_0 : Int) (l1_1 : List S24) : Option (Int × List S24 × Int) :=
  if (Goods l0_1 ∧ l0_1.length ≤ 9223372036854775807) ∧ (Goods l1_1 ∧ l1_1.length ≤ 9223372036854775807) then (bitset_MayTable.f k a0_0 l0_1).bind fun b => if b = true then (bitset_MayTable.f k a1_0 l1_1).bind fun b2 => if b2 = true then
    if a0_0 = (l1_1.length : Int) then (bitset_blanks.f k a1_0 (l0_1.length : Int)).bind fun t => some (t.1, prodA l1_1 0 l0_1 t.2, 0) else some (0, [], 60) else some (0, [], 61) else some (0, [], 61) else none
theorem orw_is {n : Nat} {p q : Nat → Bool} {b ws : List Int} (hb' : Is n p b) (hw : Is n q ws) : Is n (fun d => p d || q d) (orw b ws) := by
  have hl : ws.length ≤ b.length := by rw [hw.len, hb'.len]; exact Nat.le_refl _
  obtain ⟨c, hc, hi⟩ := foldw_is bitly_or hb' hw
  rw [orw_eq hl] at hc
  cases hc
  exact hi
theorem RowsAre.prod {n m r : Nat} {p q : Nat → Nat → Bool} {lb rows : List S24} (hb' : RowsAre r m q lb) (h : RowsAre n m p rows) {j : Nat} (hj : j < n) {e : Nat} (he : e < r) : RowsAre n m (fun x d => p x d || (decide (x = j) && q e d)) (prodS lb j rows (e : Int)) := by
  have hjl : j < rows.length := by rw [h.1]; exact hj
  have hel : e < lb.length := by rw [hb'.1]; exact he
  unfold prodS
  rw [rdT_nat rows hjl, rdT_nat lb hel]
  obtain ⟨a1, a2⟩ := h.2 j hjl
  refine (h.set _ a1 (orw_is a2 (hb'.2 e hel).2)).congr fun x _ d _ => ?_
  by_cases hx : x = j
  · subst hx; simp
  · simp [hx]
theorem RowsAre.prods {n m r : Nat} {q : Nat → Nat → Bool} {lb : List S24} (hb' : RowsAre r m q lb) {j : Nat} (hj : j < n) : ∀ (xs : List Int) {p : Nat → Nat → Bool} {rows : List S24}, RowsAre n m p rows → (∀ z ∈ xs, 0 ≤ z ∧ z < r) → RowsAre n m (fun x d => p x d || (decide (x = j) && xs.any (fun z => q z.toNat d))) (xs.foldl (prodS lb j) rows)
  | [], p, rows, h, _ => h.congr fun x _ d _ => by simp
  | z :: xs, p, rows, h, hz => by
    obtain ⟨y, rfl⟩ := Int.eq_ofNat_of_zero_le (hz z List.mem_cons_self).1
    have hy : y < r := by have := (hz _ List.mem_cons_self).2; omega
    refine (RowsAre.prods hb' hj xs (RowsAre.prod hb' h hj hy) (fun z h => hz z (List.mem_cons_of_mem _ h))).congr fun x _ d _ => ?_
    simp only [List.any_cons, Int.toNat_natCast]
    generalize p x d = a1
    generalize decide (x = j) = a2
    generalize q y d = a3
    generalize xs.any (fun z => q z.toNat d) = a4
    revert a1 a2 a3 a4
    decide
theorem els_any {r : Nat} {ws : List Int} (hM : MayP (r : Int) ws) (f : Nat → Bool) : (els (64 * ws.length) ws).any (fun z => f z.toNat) = (List.range r).any fun e => hb ws e && f e := by
  rw [Bool.eq_iff_iff, List.any_eq_true, List.any_eq_true]
  constructor
  · rintro ⟨z, hz, h⟩
    obtain ⟨j, _, j2, rfl⟩ := mem_els.1 hz
    have hj : j < r := by have := (els_in hM hz).2; omega
    exact ⟨j, List.mem_range.2 hj, by rw [j2]; simpa using h⟩
  · rintro ⟨e, he, h⟩
    rw [Bool.and_eq_true] at h
    exact ⟨(e : Int), mem_els.2 ⟨e, Nat.lt_of_not_le (fun hle => by rw [hb_high hle] at h; cases h.1), h.1, rfl⟩, by simpa using h.2⟩
theorem RowsAre.prodA {n m r : Nat} {q : Nat → Nat → Bool} {lb : List S24} (hb' : RowsAre r m q lb) : ∀ (l : List S24) (i : Nat) {p : Nat → Nat → Bool} {rows : List S24}, RowsAre n m p rows → i + l.length ≤ n → (∀ s ∈ l, MayP (r : Int) s.f1) → RowsAre n m (fun x d => p x d || (decide (i ≤ x) && (List.range r).any fun e => hb (l.getD (x - i) ⟨0, []⟩).f1 e && q e d)) (prodA lb i l rows)
  | [], i, p, rows, h, _, _ => h.congr fun x _ d _ => by simp [hb_high]
  | s :: l, i, p, rows, h, hi, hm => by
    simp only [List.length_cons] at hi
    have h1 := RowsAre.prods hb' (j := i) (by omega) (els (64 * s.f1.length) s.f1) h (fun z hz => els_in (hm s List.mem_cons_self) hz)
    refine (RowsAre.prodA hb' l (i + 1) h1 (by omega) (fun s hs => hm s (List.mem_cons_of_mem _ hs))).congr fun x _ d _ => ?_
    rw [els_any (hm s List.mem_cons_self) (fun e => q e d)]
    by_cases hx : x = i
    · subst hx
      have e1 : ¬ (x + 1 ≤ x) := by omega
      have e2 : x - x = 0 := by omega
      rw [e2]
      simp only [e1, Nat.le_refl, List.getD_cons_zero, decide_true, decide_false, Bool.true_and, Bool.false_and, Bool.or_false]
    · by_cases hix : i ≤ x
      · have h2 : i + 1 ≤ x := by omega
        obtain ⟨c, rfl⟩ : ∃ c, x = i + 1 + c := ⟨x - (i + 1), by omega⟩
        have e1 : i + 1 + c - (i + 1) = c := by omega
        have e2 : i + 1 + c - i = c + 1 := by omega
        rw [e1, e2]
        simp [hx, hix]
      · have h2 : ¬ i + 1 ≤ x := by omega
        simp [hx, hix, h2]
end Go.Proofs.YtjmkhdhffmlhiaaDoor.PAll
end
section
namespace Go.Proofs.YtjmkhdhffmlhiaaDoor.PAll
open Go.RowKit Go.Proofs.YtjmkhdhffmlhiaaDoorW.PrintWords Go.Proofs.YtjmkhdhffmlhiaaDoorW.PrintLast Go.Proofs.YtjmkhdhffmlhiaaDoorW.PrintMore
attribute [local go_sem] max2_int min2_int max_two min_two max_three min_three max_four min_four w64_u8 w64_mod256   -- for this text's walks alone
set_option linter.unusedVariables false
set_option linter.unusedSimpArgs false
end Go.Proofs.YtjmkhdhffmlhiaaDoor.PAll
end
section
namespace Go.Proofs.YtjmkhdhffmlhiaaDoor.PAll
set_option linter.unusedVariables false
open Go.RowKit Go.Shelf Go.Proofs.YtjmkhdhffmlhiaaDoorW.PrintWords Go.Proofs.YtjmkhdhffmlhiaaDoorW.PrintLast Go.Proofs.YtjmkhdhffmlhiaaDoorW.PrintMore
def bothS (j : Nat) (rows : List S24) (s : S24) : List S24 := rows.set j ⟨(rd_T24 rows (j : Int)).f0, orw (rd_T24 rows (j : Int)).f1 s.f1⟩
def bothA : Nat → List S24 → List S24 → List S24
  | _, [], rows => rows
  | j, s :: l, rows => bothA (j + 1) l (bothS j rows s)
def bitset_Both.f (k : Nat) (a0_0 : Int) (l0_1 : List S24) : Option (Int × List S24 × Int) :=
  if Goods l0_1 ∧ l0_1.length ≤ 9223372036854775807 then (bitset_MayTable.f k a0_0 l0_1).bind fun b => if b = true then
    if a0_0 = (l0_1.length : Int) then (bitset_Turn.f k a0_0 l0_1).bind fun t => some (t.1, bothA 0 l0_1 t.2.1, 0) else some (0, [], 60) else some (0, [], 61) else none
theorem bitset_Both.mono : ∀ a0_0 l0_1 k, LeO (bitset_Both.f k a0_0 l0_1) (bitset_Both.f (k + 1) a0_0 l0_1) := by
  intro a l k
  unfold bitset_Both.f
  split
  · exact LeO.bind (bitset_MayTable.mono _ _ _) fun b => LeO.ite (LeO.ite (LeO.bind (bitset_Turn.mono _ _ _) fun t => LeO.refl _) (LeO.refl _)) (LeO.refl _)
  · exact LeO.none _
theorem RowsAre.both {n m : Nat} {p : Nat → Nat → Bool} {rows : List S24} (h : RowsAre n m p rows) {j : Nat} (hj : j < n) {s : S24} {q : Nat → Bool} (hs : Is m q s.f1) : RowsAre n m (fun x d => p x d || (decide (x = j) && q d)) (bothS j rows s) := by
  have hjl : j < rows.length := by rw [h.1]; exact hj
  unfold bothS
  rw [rdT_nat rows hjl]
  obtain ⟨a1, a2⟩ := h.2 j hjl
  refine (h.set _ a1 (orw_is a2 hs)).congr fun x _ d _ => ?_
  by_cases hx : x = j
  · subst hx; simp
  · simp [hx]
theorem RowsAre.bothA {n m : Nat} : ∀ (l : List S24) (i : Nat) {p : Nat → Nat → Bool} {rows : List S24}, RowsAre n m p rows → i + l.length ≤ n → (∀ s ∈ l, MayP (m : Int) s.f1 ∧ Wds s.f1) → RowsAre n m (fun x d => p x d || (decide (i ≤ x) && hb (l.getD (x - i) ⟨0, []⟩).f1 d)) (bothA i l rows)
  | [], i, p, rows, h, _, _ => h.congr fun x _ d _ => by simp [hb_high]
  | s :: l, i, p, rows, h, hi, hm => by
    simp only [List.length_cons] at hi
    have hs := hm s List.mem_cons_self
    have h1 := h.both (j := i) (by omega) (s := s) (q := hb s.f1) (by have := hs.1.is hs.2; rwa [Int.toNat_natCast] at this)
    refine (RowsAre.bothA l (i + 1) h1 (by omega) (fun s hs => hm s (List.mem_cons_of_mem _ hs))).congr fun x _ d _ => ?_
    by_cases hx : x = i
    · subst hx
      have e1 : ¬ (x + 1 ≤ x) := by omega
      have e2 : x - x = 0 := by omega
      rw [e2]
      simp only [e1, Nat.le_refl, List.getD_cons_zero, decide_true, decide_false, Bool.true_and, Bool.false_and, Bool.or_false]
    · by_cases hix : i ≤ x
      · have h2 : i + 1 ≤ x := by omega
        obtain ⟨c, rfl⟩ : ∃ c, x = i + 1 + c := ⟨x - (i + 1), by omega⟩
        have e1 : i + 1 + c - (i + 1) = c := by omega
        have e2 : i + 1 + c - i = c + 1 := by omega
        rw [e1, e2]
        simp [hx, hix]
      · have h2 : ¬ i + 1 ≤ x := by omega
        simp [hx, hix, h2]
end Go.Proofs.YtjmkhdhffmlhiaaDoor.PAll
end
section
namespace Go.Proofs.YtjmkhdhffmlhiaaDoor.PAll
set_option linter.unusedVariables false
open Go.RowKit Go.Shelf Go.Proofs.YtjmkhdhffmlhiaaDoorW.PrintWords Go.Proofs.YtjmkhdhffmlhiaaDoorW.PrintLast Go.Proofs.YtjmkhdhffmlhiaaDoorW.PrintMore
end Go.Proofs.YtjmkhdhffmlhiaaDoor.PAll
end
section
namespace Go.Proofs.YtjmkhdhffmlhiaaDoor.PAll
set_option linter.unusedVariables false
set_option linter.unusedSimpArgs false
open Go.RowKit Go.Shelf Go.Proofs.YtjmkhdhffmlhiaaDoorW.PrintWords Go.Proofs.YtjmkhdhffmlhiaaDoorW.PrintLast Go.Proofs.YtjmkhdhffmlhiaaDoorW.PrintMore
attribute [local go_sem] Oper.semAt_some
def makeS (j : Nat) (rows : List S24) (s : S24) : List S24 := rows.set j ⟨(rd_T24 rows (j : Int)).f0, s.f1⟩
def makeA : Nat → List S24 → List S24 → List S24
  | _, [], rows => rows
  | j, s :: l, rows => makeA (j + 1) l (makeS j rows s)
theorem Rok.make {n m j : Nat} {rows : List S24} (h : Rok n m rows) {s : S24} (hs : s.f1.length = (m + 63) / 64) : Rok n m (makeS j rows s) := by
  refine ⟨by unfold makeS; rw [List.length_set, h.1], fun r hr => ?_⟩
  unfold makeS at hr
  rcases List.mem_or_eq_of_mem_set hr with hr | rfl
  · exact h.2 r hr
  · exact hs
end Go.Proofs.YtjmkhdhffmlhiaaDoor.PAll
end
section
namespace Go.Proofs.YtjmkhdhffmlhiaaDoor.PAll
set_option linter.unusedVariables false
set_option linter.unusedSimpArgs false
open Go.RowKit Go.Proofs.YtjmkhdhffmlhiaaDoorW.PrintWords Go.Proofs.YtjmkhdhffmlhiaaDoorW.PrintLast Go.Proofs.YtjmkhdhffmlhiaaDoorW.PrintMore
end Go.Proofs.YtjmkhdhffmlhiaaDoor.PAll
end
section
namespace Go.Proofs.YtjmkhdhffmlhiaaDoor.PAll
set_option linter.unusedVariables false
set_option linter.unusedSimpArgs false
open Go.RowKit Go.Shelf Go.Proofs.YtjmkhdhffmlhiaaDoorW.PrintWords Go.Proofs.YtjmkhdhffmlhiaaDoorW.PrintLast Go.Proofs.YtjmkhdhffmlhiaaDoorW.PrintMore
attribute [local go_sem] Oper.semAt_some
theorem Rok.both {n m j : Nat} {rows : List S24} (h : Rok n m rows) (hj : j < n) {s : S24} (hs : s.f1.length = (m + 63) / 64) : Rok n m (bothS j rows s) := by
  have hjl : j < rows.length := by rw [h.1]; exact hj
  refine ⟨by unfold bothS; rw [List.length_set, h.1], fun r hr => ?_⟩
  unfold bothS at hr
  rcases List.mem_or_eq_of_mem_set hr with hr | rfl
  · exact h.2 r hr
  · rw [rdT_nat rows hjl]
    have a1 := h.2 _ (List.getElem_mem hjl)
    simp only
    rw [orw_length (by omega)]
    exact a1
end Go.Proofs.YtjmkhdhffmlhiaaDoor.PAll
end
section
namespace Go.Proofs.YtjmkhdhffmlhiaaDoor.PAll
set_option linter.unusedVariables false
set_option linter.unusedSimpArgs false
open Go.RowKit Go.Proofs.YtjmkhdhffmlhiaaDoorW.PrintWords Go.Proofs.YtjmkhdhffmlhiaaDoorW.PrintLast Go.Proofs.YtjmkhdhffmlhiaaDoorW.PrintMore
end Go.Proofs.YtjmkhdhffmlhiaaDoor.PAll
end
section
namespace Go.Proofs.YtjmkhdhffmlhiaaDoor.PAll
set_option linter.unusedVariables false
set_option linter.unusedSimpArgs false
open Go.RowKit Go.Shelf Go.Proofs.YtjmkhdhffmlhiaaDoorW.PrintWords Go.Proofs.YtjmkhdhffmlhiaaDoorW.PrintLast Go.Proofs.YtjmkhdhffmlhiaaDoorW.PrintMore
attribute [local go_sem] Oper.semAt_some
def bitset_MakeTable.f (k : Nat) (a0 : Int) (l1 : List S24) : Option (Int × List S24 × Int) :=
  if Goods l1 ∧ l1.length ≤ 9223372036854775807 then (bitset_fit.f k a0 l1).bind fun r => if r = 0 then (if (4096 : Int) < (l1.length : Int) then some (0, [], 1) else (bitset_blanks.f k a0 (l1.length : Int)).bind fun t => some (t.1, makeA 0 l1 t.2, 0)) else some (0, [], r) else none
theorem FitSays.zero {n : Int} {l : List S24} (h : FitSays n l 0) : (∀ x ∈ l, MayS x ∧ x.f0 = n) ∧ 0 ≤ n ∧ n ≤ 4096 := by
  rcases h with ⟨h1, _⟩ | ⟨h1, _⟩ | ⟨_, h1, h2, h3⟩
  · omega
  · omega
  · exact ⟨fun x hx => ⟨h1 x hx, h2 x hx⟩, h3⟩
end Go.Proofs.YtjmkhdhffmlhiaaDoor.PAll
end
section
namespace Go.Proofs.YtjmkhdhffmlhiaaDoor.PAll
set_option linter.unusedVariables false
set_option linter.unusedSimpArgs false
open Go.RowKit Go.Shelf Go.Proofs.YtjmkhdhffmlhiaaDoorW.PrintWords Go.Proofs.YtjmkhdhffmlhiaaDoorW.PrintLast Go.Proofs.YtjmkhdhffmlhiaaDoorW.PrintMore
attribute [local go_sem] Oper.semAt_some
def clS (k : Nat) (rows : List S24) (i : Nat) : List S24 := if hb (rd_T24 rows (i : Int)).f1 k = true then (if i = k then rows else bothS i rows (rd_T24 rows (k : Int))) else rows
def clI (k : Nat) : Nat → Nat → List S24 → List S24
  | 0, _, rows => rows
  | d + 1, i, rows => clI k d (i + 1) (clS k rows i)
def clO (n : Nat) : Nat → Nat → List S24 → List S24
  | 0, _, rows => rows
  | d + 1, k, rows => clO n d (k + 1) (clI k n 0 rows)
def Rw (n : Nat) (rows : List S24) : Prop := rows.length = n ∧ ∀ r ∈ rows, r.f1.length = (n + 63) / 64 ∧ Wds r.f1
theorem orw_Wds {b ws : List Int} (h : Wds b) (k : Wds ws) : Wds (orw b ws) := by
  intro x hx
  unfold orw at hx
  rcases List.mem_append.1 hx with hx | hx
  · exact zip_Wds bitly_or h k x hx
  · exact h x (List.mem_of_mem_drop hx)
theorem Rw.step {n k i : Nat} {rows : List S24} (h : Rw n rows) (hk : k < n) (hi : i < n) : Rw n (clS k rows i) := by
  unfold clS
  split
  · split
    · exact h
    · have hil : i < rows.length := by rw [h.1]; exact hi
      have hkl : k < rows.length := by rw [h.1]; exact hk
      have h1 := h.2 _ (List.getElem_mem hil)
      have h2 := h.2 _ (List.getElem_mem hkl)
      refine ⟨by unfold bothS; rw [List.length_set, h.1], fun r hr => ?_⟩
      unfold bothS at hr
      rcases List.mem_or_eq_of_mem_set hr with hr | rfl
      · exact h.2 r hr
      · rw [rdT_nat rows hil, rdT_nat rows hkl]
        exact ⟨by simp only; rw [orw_length (by omega)]; exact h1.1, orw_Wds h1.2 h2.2⟩
  · exact h
end Go.Proofs.YtjmkhdhffmlhiaaDoor.PAll
end
section
namespace Go.Proofs.YtjmkhdhffmlhiaaDoor.PAll
set_option linter.unusedVariables false
set_option linter.unusedSimpArgs false
open Go.RowKit Go.Shelf Go.Proofs.YtjmkhdhffmlhiaaDoorW.PrintWords Go.Proofs.YtjmkhdhffmlhiaaDoorW.PrintLast Go.Proofs.YtjmkhdhffmlhiaaDoorW.PrintMore
attribute [local go_sem] Oper.semAt_some
def bitset_Closure.f (k : Nat) (a0_0 : Int) (l0_1 : List S24) : Option (Int × List S24 × Int) :=
  if Goods l0_1 ∧ l0_1.length ≤ 9223372036854775807 then (bitset_MayTable.f k a0_0 l0_1).bind fun b => if b = true then
    if a0_0 = (l0_1.length : Int) then (bitset_MakeTable.f k a0_0 l0_1).bind fun t => some (t.1, clO l0_1.length l0_1.length 0 t.2.1, 0) else some (0, [], 60) else some (0, [], 61) else none
theorem RowsAre.rw {n : Nat} {p : Nat → Nat → Bool} {rows : List S24} (h : RowsAre n n p rows) : Rw n rows :=
  ⟨h.1, fun r hr => by obtain ⟨i, hi, rfl⟩ := List.getElem_of_mem hr; exact ⟨(h.2 i hi).2.len, (h.2 i hi).2.wds⟩⟩
end Go.Proofs.YtjmkhdhffmlhiaaDoor.PAll
end
section
namespace Go.Proofs.YtjmkhdhffmlhiaaDoor.PAll
set_option linter.unusedVariables false
set_option linter.unusedSimpArgs false
open Go.RowKit Go.Shelf Go.Proofs.YtjmkhdhffmlhiaaDoorW.PrintWords Go.Proofs.YtjmkhdhffmlhiaaDoorW.PrintLast Go.Proofs.YtjmkhdhffmlhiaaDoorW.PrintMore
def way (p : Nat → Nat → Bool) : Nat → Nat → Nat → Bool
  | 0, x, y => p x y
  | k + 1, x, y => way p k x y || (way p k x k && way p k k y)
theorem RowsAre.cl {n : Nat} {p : Nat → Nat → Bool} {rows : List S24} (h : RowsAre n n p rows) {k i : Nat} (hk : k < n) (hi : i < n) : RowsAre n n (fun x d => p x d || (decide (x = i) && (p i k && p k d))) (clS k rows i) := by
  have hil : i < rows.length := by rw [h.1]; exact hi
  have hkl : k < rows.length := by rw [h.1]; exact hk
  have hik := (h.2 i hil).2.has k
  unfold clS
  rw [rdT_nat rows hil, rdT_nat rows hkl, hik]
  simp only [hk, decide_true, Bool.true_and]
  by_cases hp : p i k = true
  · rw [if_pos hp]
    by_cases he : i = k
    · rw [if_pos he]
      subst he
      refine h.congr fun x _ d _ => ?_
      by_cases hx : x = i
      · subst hx; rw [hp]; simp
      · simp [hx]
    · rw [if_neg he]
      refine (h.both hi (h.2 k hkl).2).congr fun x _ d _ => ?_
      rw [hp, Bool.true_and]
  · rw [if_neg hp]
    have hp' : p i k = false := by simpa using hp
    exact h.congr fun x _ d _ => by rw [hp']; simp
theorem RowsAre.clI {n : Nat} {k : Nat} (hk : k < n) : ∀ (d i : Nat) {p : Nat → Nat → Bool} {rows : List S24}, RowsAre n n p rows → i + d = n → RowsAre n n (fun x y => p x y || (decide (i ≤ x) && (p x k && p k y))) (clI k d i rows)
  | 0, i, p, rows, h, hi => by
    refine h.congr fun x hx y _ => ?_
    have : ¬ i ≤ x := by omega
    simp [this]
  | d + 1, i, p, rows, h, hi => by
    have hin : i < n := by omega
    refine (RowsAre.clI hk d (i + 1) (h.cl hk hin) (by omega)).congr fun x hx y _ => ?_
    by_cases hxi : x = i
    · subst hxi
      have h1 : ¬ x + 1 ≤ x := by omega
      simp [h1]
    · by_cases hle : i ≤ x
      · have h1 : i + 1 ≤ x := by omega
        by_cases hki : k = i
        · subst hki
          simp only [hxi, hle, h1, decide_true, decide_false, Bool.true_and, Bool.false_and, Bool.or_false]
          generalize p x y = a1
          generalize p x k = a2
          generalize p k y = a3
          generalize p k k = a4
          revert a1 a2 a3 a4
          decide
        · simp [hxi, hle, h1, hki]
      · have h1 : ¬ i + 1 ≤ x := by omega
        simp [hxi, hle, h1]
theorem RowsAre.clO {n : Nat} {p : Nat → Nat → Bool} : ∀ (d k : Nat) {rows : List S24}, RowsAre n n (way p k) rows → k + d = n → RowsAre n n (way p n) (clO n d k rows)
  | 0, k, rows, h, hk => by
    rw [Nat.add_zero] at hk
    subst hk
    exact h
  | d + 1, k, rows, h, hk => RowsAre.clO d (k + 1) ((RowsAre.clI (by omega) n 0 h (by omega)).congr fun x _ y _ => by rw [way]; simp) (by omega)
end Go.Proofs.YtjmkhdhffmlhiaaDoor.PAll
end
section
namespace Go.Proofs.YtjmkhdhffmlhiaaDoor.PAll
open Go.RowKit Go.Proofs.YtjmkhdhffmlhiaaDoorW.PrintWords Go.Proofs.YtjmkhdhffmlhiaaDoorW.PrintLast Go.Proofs.YtjmkhdhffmlhiaaDoorW.PrintMore
attribute [local go_sem] max2_int min2_int max_two min_two max_three min_three max_four min_four w64_u8 w64_mod256   -- for this text's walks alone
set_option linter.unusedVariables false
set_option linter.unusedSimpArgs false
end Go.Proofs.YtjmkhdhffmlhiaaDoor.PAll
end
section
namespace Go.Proofs.YtjmkhdhffmlhiaaDoor.PAll
open Go.RowKit Go.Proofs.YtjmkhdhffmlhiaaDoorW.PrintWords Go.Proofs.YtjmkhdhffmlhiaaDoorW.PrintLast Go.Proofs.YtjmkhdhffmlhiaaDoorW.PrintMore
attribute [local go_sem] max2_int min2_int max_two min_two max_three min_three max_four min_four w64_u8 w64_mod256   -- for this text's walks alone
set_option linter.unusedVariables false
set_option linter.unusedSimpArgs false
end Go.Proofs.YtjmkhdhffmlhiaaDoor.PAll
end
section
namespace Go.Proofs.YtjmkhdhffmlhiaaDoor.PAll
open Go.RowKit Go.Proofs.YtjmkhdhffmlhiaaDoorW.PrintWords Go.Proofs.YtjmkhdhffmlhiaaDoorW.PrintLast Go.Proofs.YtjmkhdhffmlhiaaDoorW.PrintMore
attribute [local go_sem] max2_int min2_int max_two min_two max_three min_three max_four min_four w64_u8 w64_mod256   -- for this text's walks alone
set_option linter.unusedVariables false
set_option linter.unusedSimpArgs false
def bitset_Range.l0 : Nat → Int → Int → Int → Int → Int → List Int → Option (Int × List Int × Int)
  | 0, _, _, _, _, _, _ => none
  | k + 1, x1, x2, x26, x27, x108000, x108001 => if x27 < x26 then (if (mx (wrap64 (x1 - (wrap64 (x27 * 64)))) 0) < (mn (wrap64 (x2 - (wrap64 (x27 * 64)))) 64) then (if 0 ≤ (wrap64 (64 - (wrap64 ((mn (wrap64 (x2 - (wrap64 (x27 * 64)))) 64) - (mx (wrap64 (x1 - (wrap64 (x27 * 64)))) 0))))) then (if 0 ≤ x27 then (if x27 < (x108001.length : Int) then (bitset_Range.l0 k x1 x2 x26 (wrap64 (x27 + 1)) x108000 (x108001.set (x27 : Int).toNat (shl .u64 (shr .u64 18446744073709551615 (wrap64 (64 - (wrap64 ((mn (wrap64 (x2 - (wrap64 (x27 * 64)))) 64) - (mx (wrap64 (x1 - (wrap64 (x27 * 64)))) 0)))))) (mx (wrap64 (x1 - (wrap64 (x27 * 64)))) 0)))) else (none)) else (none)) else (none)) else (bitset_Range.l0 k x1 x2 x26 (wrap64 (x27 + 1)) x108000 x108001)) else (some (x108000, x108001, 0))
def bitset_Range.f (k : Nat) (a0 : Int) (a1 : Int) (a2 : Int) : Option (Int × List Int × Int) := (bitset_sized.f a0).bind fun t102 => (if t102 = true then ((bitset_blank.f a0).bind fun bt103 => (bitset_Range.l0 k (mx a1 0) (mx (mn a2 a0) 0) (bt103.2.length : Int) 0 bt103.1 bt103.2)) else (some (0, ([] : List Int), 60)))
end Go.Proofs.YtjmkhdhffmlhiaaDoor.PAll
end
section
namespace Go.Proofs.YtjmkhdhffmlhiaaDoor.PAll
open Go.RowKit Go.Proofs.YtjmkhdhffmlhiaaDoorW.PrintWords Go.Proofs.YtjmkhdhffmlhiaaDoorW.PrintLast Go.Proofs.YtjmkhdhffmlhiaaDoorW.PrintMore
attribute [local go_sem] max2_int min2_int max_two min_two max_three min_three max_four min_four w64_u8 w64_mod256   -- for this text's walks alone
set_option linter.unusedVariables false
set_option linter.unusedSimpArgs false
end Go.Proofs.YtjmkhdhffmlhiaaDoor.PAll
end
section
namespace Go.Proofs.YtjmkhdhffmlhiaaDoor.PAll
open Go.RowKit Go.Proofs.YtjmkhdhffmlhiaaDoorW.PrintWords Go.Proofs.YtjmkhdhffmlhiaaDoorW.PrintLast Go.Proofs.YtjmkhdhffmlhiaaDoorW.PrintMore
attribute [local go_sem] max2_int min2_int max_two min_two max_three min_three max_four min_four w64_u8 w64_mod256   -- for this text's walks alone
set_option linter.unusedVariables false
set_option linter.unusedSimpArgs false
def bitset_two_andNot.j0 : Nat → Unit → Bool → Int → List Int → Int → List Int → Option (Int × List Int × Int)
  | 0, _, _, _, _, _, _ => none
  | k + 1, x2, x15, x102000, x102001, x103000, x103001 => if x15 = true then (some (0, ([] : List Int), 61)) else (if x102000 = x103000 then ((bitset_own.f x102000 x102001).bind fun t106 => ((bitset_fold_andNot.f x102000 t106 (([(⟨x103000, x103001⟩ : S24)] : List (S24))) x2).bind fun bt112 => (some (bt112.1, bt112.2, 0)))) else (some (0, ([] : List Int), 60)))
def bitset_two_andNot.f (k : Nat) (a0_0 : Int) (l0_1 : List Int) (a1_0 : Int) (l1_1 : List Int) (a2 : Unit) : Option (Int × List Int × Int) := (bitset_May.f a0_0 l0_1).bind fun t104 => (if t104 = true then ((bitset_May.f a1_0 l1_1).bind fun t105 => (bitset_two_andNot.j0 k a2 (!t105) a0_0 l0_1 a1_0 l1_1)) else (bitset_two_andNot.j0 k a2 true a0_0 l0_1 a1_0 l1_1))
end Go.Proofs.YtjmkhdhffmlhiaaDoor.PAll
end
section
namespace Go.Proofs.YtjmkhdhffmlhiaaDoor.PAll
open Go.RowKit Go.Proofs.YtjmkhdhffmlhiaaDoorW.PrintWords Go.Proofs.YtjmkhdhffmlhiaaDoorW.PrintLast Go.Proofs.YtjmkhdhffmlhiaaDoorW.PrintMore
attribute [local go_sem] max2_int min2_int max_two min_two max_three min_three max_four min_four w64_u8 w64_mod256   -- for this text's walks alone
set_option linter.unusedVariables false
set_option linter.unusedSimpArgs false
end Go.Proofs.YtjmkhdhffmlhiaaDoor.PAll
end
section
namespace Go.Proofs.YtjmkhdhffmlhiaaDoor.PAll
open Go.RowKit Go.Proofs.YtjmkhdhffmlhiaaDoorW.PrintWords Go.Proofs.YtjmkhdhffmlhiaaDoorW.PrintLast Go.Proofs.YtjmkhdhffmlhiaaDoorW.PrintMore
attribute [local go_sem] max2_int min2_int max_two min_two max_three min_three max_four min_four w64_u8 w64_mod256   -- for this text's walks alone
set_option linter.unusedVariables false
set_option linter.unusedSimpArgs false
def bitset_none_andNot.f (k : Nat) (a0_0 : Int) (l0_1 : List Int) (a1_0 : Int) (l1_1 : List Int) (a2 : Unit) : Option (Bool) := (bitset_two_andNot.f k a0_0 l0_1 a1_0 l1_1 a2).bind fun bt103 => (if bt103.2.2 = 0 then ((bitset_Count.f k bt103.1 bt103.2.1).bind fun t109 => (some (t109 == 0))) else (some false))
end Go.Proofs.YtjmkhdhffmlhiaaDoor.PAll
end
section
namespace Go.Proofs.YtjmkhdhffmlhiaaDoor.PAll
open Go.RowKit Go.Proofs.YtjmkhdhffmlhiaaDoorW.PrintWords Go.Proofs.YtjmkhdhffmlhiaaDoorW.PrintLast Go.Proofs.YtjmkhdhffmlhiaaDoorW.PrintMore
attribute [local go_sem] max2_int min2_int max_two min_two max_three min_three max_four min_four w64_u8 w64_mod256   -- for this text's walks alone
set_option linter.unusedVariables false
set_option linter.unusedSimpArgs false
def bitset_Subset.f (k : Nat) (a0_0 : Int) (l0_1 : List Int) (a1_0 : Int) (l1_1 : List Int) : Option (Bool) := (bitset_none_andNot.f k a0_0 l0_1 a1_0 l1_1 ()).bind fun t103 => (some t103)
end Go.Proofs.YtjmkhdhffmlhiaaDoor.PAll
end
section
namespace Go.Proofs.YtjmkhdhffmlhiaaDoor.PAll
open Go.RowKit Go.Proofs.YtjmkhdhffmlhiaaDoorW.PrintWords Go.Proofs.YtjmkhdhffmlhiaaDoorW.PrintLast Go.Proofs.YtjmkhdhffmlhiaaDoorW.PrintMore
attribute [local go_sem] max2_int min2_int max_two min_two max_three min_three max_four min_four w64_u8 w64_mod256   -- for this text's walks alone
set_option linter.unusedVariables false
set_option linter.unusedSimpArgs false
def bitset_Union.f (k : Nat) (a0 : Int) (l1 : List (S24)) : Option (Int × List Int × Int) := (bitset_fit.f k a0 l1).bind fun t102 => (if t102 = 0 then ((bitset_blank.f a0).bind fun bt103 => ((bitset_fold_or.f bt103.1 bt103.2 l1 ()).bind fun bt107 => (some (bt107.1, bt107.2, 0)))) else (some (0, ([] : List Int), t102)))
end Go.Proofs.YtjmkhdhffmlhiaaDoor.PAll
end
section
namespace Go.Proofs.YtjmkhdhffmlhiaaDoor.PAll
open Go.RowKit Go.Proofs.YtjmkhdhffmlhiaaDoorW.PrintWords Go.Proofs.YtjmkhdhffmlhiaaDoorW.PrintLast Go.Proofs.YtjmkhdhffmlhiaaDoorW.PrintMore
attribute [local go_sem] max2_int min2_int max_two min_two max_three min_three max_four min_four w64_u8 w64_mod256   -- for this text's walks alone
set_option linter.unusedVariables false
set_option linter.unusedSimpArgs false
end Go.Proofs.YtjmkhdhffmlhiaaDoor.PAll
end
section
namespace Go.Proofs.YtjmkhdhffmlhiaaDoor.PAll
open Go.RowKit Go.Proofs.YtjmkhdhffmlhiaaDoorW.PrintWords Go.Proofs.YtjmkhdhffmlhiaaDoorW.PrintLast Go.Proofs.YtjmkhdhffmlhiaaDoorW.PrintMore
attribute [local go_sem] max2_int min2_int max_two min_two max_three min_three max_four min_four w64_u8 w64_mod256   -- for this text's walks alone
set_option linter.unusedVariables false
set_option linter.unusedSimpArgs false
end Go.Proofs.YtjmkhdhffmlhiaaDoor.PAll
end
section
namespace Go.Proofs.YtjmkhdhffmlhiaaDoor.PAll
open Go.RowKit Go.Proofs.YtjmkhdhffmlhiaaDoorW.PrintWords Go.Proofs.YtjmkhdhffmlhiaaDoorW.PrintLast Go.Proofs.YtjmkhdhffmlhiaaDoorW.PrintMore
attribute [local go_sem] max2_int min2_int max_two min_two max_three min_three max_four min_four w64_u8 w64_mod256   -- for this text's walks alone
set_option linter.unusedVariables false
set_option linter.unusedSimpArgs false
end Go.Proofs.YtjmkhdhffmlhiaaDoor.PAll
end
section
namespace Go.Proofs.YtjmkhdhffmlhiaaDoor.PAll
set_option linter.unusedVariables false
open Go.RowKit Go.Proofs.YtjmkhdhffmlhiaaDoorW.PrintWords Go.Proofs.YtjmkhdhffmlhiaaDoorW.PrintMore
def manyb (all : Bool) (l : List S24) (d : Nat) : Bool := if all then l.all (fun x => hb x.f1 d) else l.any (fun x => hb x.f1 d)
def ManySays (n : Int) (l : List S24) (all : Bool) (r : Int × List Int × Int) : Prop :=
  (∃ e, e ≠ 0 ∧ FitSays n l e ∧ r = (0, [], e)) ∨ (FitSays n l 0 ∧ ∃ ws, Is n.toNat (manyb all l) ws ∧ r = (n, ws, 0))
theorem ManySays.bound {n : Int} {l : List S24} {all : Bool} {s : Int} {vs : List Int} {c : Int} (h : ManySays n l all (s, vs, c)) : vs.length ≤ 9223372036854775807 := by
  rcases h with ⟨e, h1, h2, h3⟩ | ⟨h1, ws, h2, h3⟩
  · cases h3; simp
  · cases h3
    rcases h1 with ⟨h1, _⟩ | ⟨h1, _⟩ | ⟨_, _, _, h3, h4⟩
    · omega
    · omega
    · rw [h2.len]; omega
end Go.Proofs.YtjmkhdhffmlhiaaDoor.PAll
end
section
namespace Go.Proofs.YtjmkhdhffmlhiaaDoor.PAll
open Go.RowKit Go.Proofs.YtjmkhdhffmlhiaaDoorW.PrintWords Go.Proofs.YtjmkhdhffmlhiaaDoorW.PrintLast Go.Proofs.YtjmkhdhffmlhiaaDoorW.PrintMore
attribute [local go_sem] max2_int min2_int max_two min_two max_three min_three max_four min_four w64_u8 w64_mod256   -- for this text's walks alone
set_option linter.unusedVariables false
set_option linter.unusedSimpArgs false
mutual
def slopelaw3_chain.j0 : Nat → Int → Int → Bool → Option (Bool)
  | 0, _, _, _ => none
  | k + 1, x0, x1, x27 => if x27 = true then (some true) else (slopelaw3_chain.l0 k x0 x1 ([] : List (S24)) 0)
def slopelaw3_chain.l0 : Nat → Int → Int → List (S24) → Int → Option (Bool)
  | 0, _, _, _, _ => none
  | k + 1, x0, x1, x5, x6 => if x6 < x0 then ((bitset_Range.f k x0 (wrap64 (x6 + 1)) (wrap64 (x6 + 2))).bind fun bt101 => ((slopelaw3_num.f bt101.2.2).bind fun t107 => (if t107 = 0 then (if x5.length < 4398046511104 then (slopelaw3_chain.l0 k x0 x1 (x5 ++ [(⟨bt101.1, bt101.2.1⟩ : S24)]) (wrap64 (x6 + 1))) else (none)) else (some false)))) else ((bitset_Closure.f k x0 x5).bind fun bt111 => ((slopelaw3_num.f bt111.2.2).bind fun t117 => (if t117 = 0 then (slopelaw3_chain.j2 k x0 x1 ((bt111.2.1.length : Int) != x0) bt111.1 bt111.2.1) else (slopelaw3_chain.j2 k x0 x1 true bt111.1 bt111.2.1))))
def slopelaw3_chain.j2 : Nat → Int → Int → Bool → Int → List (S24) → Option (Bool)
  | 0, _, _, _, _, _ => none
  | k + 1, x0, x1, x65, x117000, x117001 => if x65 = true then (some false) else ((bitset_Range.f k x0 (wrap64 (x1 + 1)) x0).bind fun bt118 => ((slopelaw3_num.f bt118.2.2).bind fun t124 => (if t124 = 0 then (if 0 ≤ x1 then (if x1 < (x117001.length : Int) then ((slopelaw3_same.f k ((rd_T24 x117001 x1).f0) ((rd_T24 x117001 x1).f1) bt118.1 bt118.2.1).bind fun t126 => (some t126)) else (none)) else (none)) else (some false))))
end
def slopelaw3_chain.f (k : Nat) (a0 : Int) (a1 : Int) : Option (Bool) := if a0 < 1 then (slopelaw3_chain.j0 k a0 a1 true) else (if a0 > 4096 then (slopelaw3_chain.j0 k a0 a1 true) else (if a1 < 0 then (slopelaw3_chain.j0 k a0 a1 true) else (slopelaw3_chain.j0 k a0 a1 (decide (a1 ≥ a0)))))
end Go.Proofs.YtjmkhdhffmlhiaaDoor.PAll
end
section
namespace Go.Proofs.YtjmkhdhffmlhiaaDoor.PAll
open Go.RowKit Go.Proofs.YtjmkhdhffmlhiaaDoorW.PrintWords Go.Proofs.YtjmkhdhffmlhiaaDoorW.PrintLast Go.Proofs.YtjmkhdhffmlhiaaDoorW.PrintMore
attribute [local go_sem] max2_int min2_int max_two min_two max_three min_three max_four min_four w64_u8 w64_mod256   -- for this text's walks alone
set_option linter.unusedVariables false
set_option linter.unusedSimpArgs false
mutual
def slopelaw3_sameTable.j0 : Nat → Bool → Int → List (S24) → Int → List (S24) → Option (Bool)
  | 0, _, _, _, _, _ => none
  | k + 1, x19, x102000, x102001, x103000, x103001 => if x19 = true then (some false) else (slopelaw3_sameTable.l0 k 0 x102000 x102001 x103000 x103001)
def slopelaw3_sameTable.l0 : Nat → Int → Int → List (S24) → Int → List (S24) → Option (Bool)
  | 0, _, _, _, _, _ => none
  | k + 1, x5, x102000, x102001, x103000, x103001 => if x5 < (x102001.length : Int) then (if 0 ≤ x5 then (if x5 < (x103001.length : Int) then ((slopelaw3_same.f k ((rd_T24 x102001 x5).f0) ((rd_T24 x102001 x5).f1) ((rd_T24 x103001 x5).f0) ((rd_T24 x103001 x5).f1)).bind fun t105 => (if t105 = true then (slopelaw3_sameTable.l0 k (wrap64 (x5 + 1)) x102000 x102001 x103000 x103001) else (some false))) else (none)) else (none)) else (some true)
end
def slopelaw3_sameTable.f (k : Nat) (a0_0 : Int) (l0_1 : List (S24)) (a1_0 : Int) (l1_1 : List (S24)) : Option (Bool) := if a0_0 = a1_0 then (slopelaw3_sameTable.j0 k ((l0_1.length : Int) != (l1_1.length : Int)) a0_0 l0_1 a1_0 l1_1) else (slopelaw3_sameTable.j0 k true a0_0 l0_1 a1_0 l1_1)
end Go.Proofs.YtjmkhdhffmlhiaaDoor.PAll
end
section
namespace Go.Proofs.YtjmkhdhffmlhiaaDoor.PAll
open Go.RowKit Go.Proofs.YtjmkhdhffmlhiaaDoorW.PrintWords Go.Proofs.YtjmkhdhffmlhiaaDoorW.PrintLast Go.Proofs.YtjmkhdhffmlhiaaDoorW.PrintMore
set_option linter.unusedVariables false
mutual
def slopelaw3_BitClosed.j0 : Nat → Int → Int → Int → Bool → Int → List (S24) → Int → List (S24) → Int → List (S24) → Option (Bool)
  | 0, _, _, _, _, _, _, _, _, _, _ => none
  | k + 1, x2, x3, x10, x44, x102000, x102001, x103000, x103001, x110000, x110001 => if x44 = true then ((slopelaw3_num.f x10).bind fun t111 => (some (t111 != 0))) else ((bitset_Product.f k x102000 x102001 x110000 x110001).bind fun bt112 => ((bitset_Product.f k x110000 x110001 x110000 x110001).bind fun bt118 => ((bitset_Closure.f k x110000 x110001).bind fun bt124 => ((slopelaw3_num.f x10).bind fun t130 => ((slopelaw3_num.f bt112.2.2).bind fun t131 => ((slopelaw3_num.f bt118.2.2).bind fun t132 => ((slopelaw3_num.f bt124.2.2).bind fun t133 => (if (wrap64 ((wrap64 ((wrap64 (t130 + t131)) + t132)) + t133)) = 0 then ((slopelaw3_sameTable.f k x110000 x110001 bt124.1 bt124.2.1).bind fun t134 => (if t134 = true then (slopelaw3_BitClosed.j1 k x2 x3 ((x110001.length : Int) != x102000) x102000 x102001 x103000 x103001 x110000 x110001 bt112.1 bt112.2.1 bt118.1 bt118.2.1) else (slopelaw3_BitClosed.j1 k x2 x3 true x102000 x102001 x103000 x103001 x110000 x110001 bt112.1 bt112.2.1 bt118.1 bt118.2.1))) else (slopelaw3_BitClosed.j1 k x2 x3 true x102000 x102001 x103000 x103001 x110000 x110001 bt112.1 bt112.2.1 bt118.1 bt118.2.1)))))))))
def slopelaw3_BitClosed.j1 : Nat → Int → Int → Bool → Int → List (S24) → Int → List (S24) → Int → List (S24) → Int → List (S24) → Int → List (S24) → Option (Bool)
  | 0, _, _, _, _, _, _, _, _, _, _, _, _, _ => none
  | k + 1, x2, x3, x90, x102000, x102001, x103000, x103001, x110000, x110001, x118000, x118001, x124000, x124001 => if x90 = true then (some false) else (slopelaw3_BitClosed.l0 k x2 x3 0 x102000 x102001 x103000 x103001 x110000 x110001 x118000 x118001 x124000 x124001)
def slopelaw3_BitClosed.l0 : Nat → Int → Int → Int → Int → List (S24) → Int → List (S24) → Int → List (S24) → Int → List (S24) → Int → List (S24) → Option (Bool)
  | 0, _, _, _, _, _, _, _, _, _, _, _, _, _ => none
  | k + 1, x2, x3, x17, x102000, x102001, x103000, x103001, x110000, x110001, x118000, x118001, x124000, x124001 => if x17 < x102000 then (if 0 ≤ x17 then (if x17 < (x102001.length : Int) then (if x17 < (x118001.length : Int) then ((bitset_Union.f k x102000 (([(⟨(rd_T24 x102001 x17).f0, (rd_T24 x102001 x17).f1⟩ : S24), (⟨(rd_T24 x118001 x17).f0, (rd_T24 x118001 x17).f1⟩ : S24)] : List (S24)))).bind fun bt140 => ((slopelaw3_num.f bt140.2.2).bind fun t146 => (if t146 = 0 then (if x17 < (x110001.length : Int) then ((slopelaw3_same.f k bt140.1 bt140.2.1 ((rd_T24 x110001 x17).f0) ((rd_T24 x110001 x17).f1)).bind fun t148 => (if t148 = true then (if x17 < (x124001.length : Int) then ((bitset_Subset.f k ((rd_T24 x124001 x17).f0) ((rd_T24 x124001 x17).f1) ((rd_T24 x110001 x17).f0) ((rd_T24 x110001 x17).f1)).bind fun t151 => (if t151 = true then (slopelaw3_BitClosed.l0 k x2 x3 (wrap64 (x17 + 1)) x102000 x102001 x103000 x103001 x110000 x110001 x118000 x118001 x124000 x124001) else (some false))) else (none)) else (some false))) else (none)) else (some false)))) else (none)) else (none)) else (none)) else ((sloperef3_MayTable.f k x103000 x103001).bind fun t152 => (if t152 = true then (if x103000 = x102000 then (slopelaw3_BitClosed.j3 k x2 x3 ((x103001.length : Int) == x102000) x102000 x102001 x103000 x103001 x110000 x110001) else (slopelaw3_BitClosed.j3 k x2 x3 false x102000 x102001 x103000 x103001 x110000 x110001)) else (slopelaw3_BitClosed.j3 k x2 x3 false x102000 x102001 x103000 x103001 x110000 x110001)))
def slopelaw3_BitClosed.j3 : Nat → Int → Int → Bool → Int → List (S24) → Int → List (S24) → Int → List (S24) → Option (Bool)
  | 0, _, _, _, _, _, _, _, _, _ => none
  | k + 1, x2, x3, x157, x102000, x102001, x103000, x103001, x110000, x110001 => if x157 = true then (slopelaw3_BitClosed.l1 k x2 x3 ([] : List (S24)) 0 x102000 x102001 x103000 x103001 x110000 x110001) else ((slopelaw3_chain.f k x2 x3).bind fun t179 => (some t179))
def slopelaw3_BitClosed.l1 : Nat → Int → Int → List (S24) → Int → Int → List (S24) → Int → List (S24) → Int → List (S24) → Option (Bool)
  | 0, _, _, _, _, _, _, _, _, _, _ => none
  | k + 1, x2, x3, x20, x21, x102000, x102001, x103000, x103001, x110000, x110001 => if x21 < x102000 then (if 0 ≤ x21 then (if x21 < (x102001.length : Int) then (if x21 < (x103001.length : Int) then ((bitset_Union.f k x102000 (([(⟨(rd_T24 x102001 x21).f0, (rd_T24 x102001 x21).f1⟩ : S24), (⟨(rd_T24 x103001 x21).f0, (rd_T24 x103001 x21).f1⟩ : S24)] : List (S24)))).bind fun bt158 => ((slopelaw3_num.f bt158.2.2).bind fun t164 => (if t164 = 0 then (if x20.length < 4398046511104 then (slopelaw3_BitClosed.l1 k x2 x3 (x20 ++ [(⟨bt158.1, bt158.2.1⟩ : S24)]) (wrap64 (x21 + 1)) x102000 x102001 x103000 x103001 x110000 x110001) else (none)) else (some false)))) else (none)) else (none)) else (none)) else ((bitset_Closure.f k x102000 x20).bind fun bt168 => ((slopelaw3_num.f bt168.2.2).bind fun t174 => (if t174 = 0 then (slopelaw3_BitClosed.l2 k x2 x3 0 x102000 x102001 x110000 x110001 bt168.1 bt168.2.1) else (some false))))
def slopelaw3_BitClosed.l2 : Nat → Int → Int → Int → Int → List (S24) → Int → List (S24) → Int → List (S24) → Option (Bool)
  | 0, _, _, _, _, _, _, _, _, _ => none
  | k + 1, x2, x3, x26, x102000, x102001, x110000, x110001, x174000, x174001 => if x26 < x102000 then (if 0 ≤ x26 then (if x26 < (x110001.length : Int) then (if x26 < (x174001.length : Int) then ((bitset_Subset.f k ((rd_T24 x110001 x26).f0) ((rd_T24 x110001 x26).f1) ((rd_T24 x174001 x26).f0) ((rd_T24 x174001 x26).f1)).bind fun t177 => (if t177 = true then (slopelaw3_BitClosed.l2 k x2 x3 (wrap64 (x26 + 1)) x102000 x102001 x110000 x110001 x174000 x174001) else (some false))) else (none)) else (none)) else (none)) else ((slopelaw3_chain.f k x2 x3).bind fun t178 => (some t178))
end
def slopelaw3_BitClosed.f (k : Nat) (a0_0 : Int) (l0_1 : List (S24)) (a1_0 : Int) (l1_1 : List (S24)) (a2 : Int) (a3 : Int) : Option (Bool) := (slopelaw3_alive.f k).bind fun t103 => (if t103 = true then ((bitset_Closure.f k a0_0 l0_1).bind fun bt104 => ((sloperef3_MayTable.f k a0_0 l0_1).bind fun t110 => (if t110 = true then (slopelaw3_BitClosed.j0 k a2 a3 bt104.2.2 (a0_0 != (l0_1.length : Int)) a0_0 l0_1 a1_0 l1_1 bt104.1 bt104.2.1) else (slopelaw3_BitClosed.j0 k a2 a3 bt104.2.2 true a0_0 l0_1 a1_0 l1_1 bt104.1 bt104.2.1)))) else (some false))
end Go.Proofs.YtjmkhdhffmlhiaaDoor.PAll
end
section
namespace Go.Proofs.YtjmkhdhffmlhiaaDoor.PAll
set_option linter.unusedVariables false
set_option linter.unusedSimpArgs false
open Go.RowKit Go.Shelf Go.Proofs.YtjmkhdhffmlhiaaDoorW.PrintWords Go.Proofs.YtjmkhdhffmlhiaaDoorW.PrintLast Go.Proofs.YtjmkhdhffmlhiaaDoorW.PrintMore
attribute [local go_sem] Oper.semAt_some
end Go.Proofs.YtjmkhdhffmlhiaaDoor.PAll
end
section
namespace Go.Proofs.YtjmkhdhffmlhiaaDoor.PAll
open Go.RowKit Go.Proofs.YtjmkhdhffmlhiaaDoorW.PrintWords Go.Proofs.YtjmkhdhffmlhiaaDoorW.PrintLast Go.Proofs.YtjmkhdhffmlhiaaDoorW.PrintMore
attribute [local go_sem] max2_int min2_int max_two min_two max_three min_three max_four min_four w64_u8 w64_mod256   -- for this text's walks alone
set_option linter.unusedVariables false
set_option linter.unusedSimpArgs false
end Go.Proofs.YtjmkhdhffmlhiaaDoor.PAll
end
section
namespace Go.Proofs.YtjmkhdhffmlhiaaDoor.PAll
set_option linter.unusedVariables false
open Go.RowKit Go.Proofs.YtjmkhdhffmlhiaaDoorW.PrintWords Go.Proofs.YtjmkhdhffmlhiaaDoorW.PrintMore
theorem sameTable_l0 (n : Int) (l : List S24) (hl : l.length ≤ 9223372036854775806) (hg : ∀ s ∈ l, s.f1.length ≤ 9223372036854775807) : ∀ d i : Nat, i + d = l.length → Ev (fun k => slopelaw3_sameTable.l0 k (i : Int) n l n l) true
  | 0, i, h => ⟨1, fun k hk => by
    obtain ⟨k, rfl⟩ : ∃ j, k = j + 1 := ⟨k - 1, by omega⟩
    show slopelaw3_sameTable.l0 (k + 1) (i : Int) n l n l = _
    rw [slopelaw3_sameTable.l0, if_neg (by omega)]⟩
  | d + 1, i, h => by
    obtain ⟨K1, h1⟩ := sameTable_l0 n l hl hg d (i + 1) (by omega)
    have hi : i < l.length := by omega
    obtain ⟨K2, h2⟩ := same_ev (rd_T24 l (i : Int)).f0 (rd_T24 l (i : Int)).f1 (by rw [rdT_nat l hi]; exact hg _ (List.getElem_mem hi))
    refine ⟨K1 + K2 + 1, fun k hk => ?_⟩
    obtain ⟨k, rfl⟩ : ∃ j, k = j + 1 := ⟨k - 1, by omega⟩
    have h3 := h1 k (by omega)
    have h4 := h2 k (by omega)
    simp only at h3 h4
    show slopelaw3_sameTable.l0 (k + 1) (i : Int) n l n l = _
    rw [slopelaw3_sameTable.l0, if_pos (by omega), if_pos (by omega), if_pos (by omega), h4, Option.bind_some, if_pos rfl, show wrap64 ((i : Int) + 1) = ((i + 1 : Nat) : Int) from by rw [w64_nat (by omega) (by omega)]; omega]
    exact h3
theorem sameTable_ev (n : Int) (l : List S24) (hl : l.length ≤ 9223372036854775806) (hg : ∀ s ∈ l, s.f1.length ≤ 9223372036854775807) : Ev (fun k => slopelaw3_sameTable.f k n l n l) true := by
  obtain ⟨K, h⟩ := sameTable_l0 n l hl hg l.length 0 (by omega)
  refine ⟨K + 1, fun k hk => ?_⟩
  obtain ⟨k, rfl⟩ : ∃ j, k = j + 1 := ⟨k - 1, by omega⟩
  have h3 := h k (by omega)
  simp only at h3
  show slopelaw3_sameTable.f (k + 1) n l n l = _
  unfold slopelaw3_sameTable.f
  rw [if_pos rfl, bne_self_eq_false, slopelaw3_sameTable.j0, if_neg (by decide)]
  exact h3
theorem RowsAre.same {n m : Nat} (hn : n ≤ 4096) (hm : m ≤ 4096) {p : Nat → Nat → Bool} {l : List S24} (h : RowsAre n m p l) (x : Int) : Ev (fun k => slopelaw3_sameTable.f k x l x l) true :=
  sameTable_ev x l (by rw [h.1]; omega) (fun s hs => ((h.tab hn hm).2 s hs).2)
end Go.Proofs.YtjmkhdhffmlhiaaDoor.PAll
end
section
namespace Go.Proofs.YtjmkhdhffmlhiaaDoor.PAll
set_option linter.unusedVariables false
set_option linter.unusedSimpArgs false
open Go.RowKit Go.Proofs.YtjmkhdhffmlhiaaDoorW.PrintWords Go.Proofs.YtjmkhdhffmlhiaaDoorW.PrintMore
theorem RowsAre.row {n m : Nat} {p : Nat → Nat → Bool} {rows : List S24} (h : RowsAre n m p rows) {i : Nat} (hi : i < n) : (rd_T24 rows (i : Int)).f0 = (m : Int) ∧ Is m (p i) (rd_T24 rows (i : Int)).f1 := by
  have hil : i < rows.length := by rw [h.1]; exact hi
  rw [rdT_nat rows hil]
  exact h.2 i hil
theorem RowsAre.snoc {i m : Nat} {p : Nat → Nat → Bool} {acc : List S24} (h : RowsAre i m p acc) {ws : List Int} (hw : Is m (p i) ws) : RowsAre (i + 1) m p (acc ++ [⟨(m : Int), ws⟩]) := by
  refine ⟨by simp [h.1], fun x hx => ?_⟩
  by_cases hxi : x < acc.length
  · rw [List.getElem_append_left hxi]; exact h.2 x hxi
  · obtain rfl : x = acc.length := by simp at hx; omega
    simp only [List.getElem_concat_length]
    rw [h.1]
    exact ⟨trivial, hw⟩
def next (x y : Nat) : Bool := decide (y = x + 1)
theorem w1 {i n : Nat} (hn : n ≤ 4096) (hi : i < n) : wrap64 ((i : Int) + 1) = ((i + 1 : Nat) : Int) := by rw [w64_nat (by omega) (by omega)]; omega
end Go.Proofs.YtjmkhdhffmlhiaaDoor.PAll
end
section
namespace Go.Proofs.YtjmkhdhffmlhiaaDoor.PAll
open Go.RowKit Go.Proofs.YtjmkhdhffmlhiaaDoorW.PrintWords Go.Proofs.YtjmkhdhffmlhiaaDoorW.PrintLast Go.Proofs.YtjmkhdhffmlhiaaDoorW.PrintMore
attribute [local go_sem] max2_int min2_int max_two min_two max_three min_three max_four min_four w64_u8 w64_mod256   -- for this text's walks alone
set_option linter.unusedVariables false
set_option linter.unusedSimpArgs false
end Go.Proofs.YtjmkhdhffmlhiaaDoor.PAll
end
section
namespace Go.Proofs.YtjmkhdhffmlhiaaDoor.PAll
open Go.RowKit Go.Proofs.YtjmkhdhffmlhiaaDoorW.PrintWords Go.Proofs.YtjmkhdhffmlhiaaDoorW.PrintLast Go.Proofs.YtjmkhdhffmlhiaaDoorW.PrintMore
attribute [local go_sem] max2_int min2_int max_two min_two max_three min_three max_four min_four w64_u8 w64_mod256   -- for this text's walks alone
set_option linter.unusedVariables false
set_option linter.unusedSimpArgs false
end Go.Proofs.YtjmkhdhffmlhiaaDoor.PAll
end
section
namespace Go.Proofs.YtjmkhdhffmlhiaaDoor.PAll
open Go.RowKit Go.Proofs.YtjmkhdhffmlhiaaDoorW.PrintWords Go.Proofs.YtjmkhdhffmlhiaaDoorW.PrintLast Go.Proofs.YtjmkhdhffmlhiaaDoorW.PrintMore
attribute [local go_sem] max2_int min2_int max_two min_two max_three min_three max_four min_four w64_u8 w64_mod256   -- for this text's walks alone
set_option linter.unusedVariables false
set_option linter.unusedSimpArgs false
end Go.Proofs.YtjmkhdhffmlhiaaDoor.PAll
end
section
namespace Go.Proofs.YtjmkhdhffmlhiaaDoor.PAll
open Go.RowKit Go.Proofs.YtjmkhdhffmlhiaaDoorW.PrintWords Go.Proofs.YtjmkhdhffmlhiaaDoorW.PrintLast Go.Proofs.YtjmkhdhffmlhiaaDoorW.PrintMore
attribute [local go_sem] max2_int min2_int max_two min_two max_three min_three max_four min_four w64_u8 w64_mod256   -- for this text's walks alone
set_option linter.unusedVariables false
set_option linter.unusedSimpArgs false
end Go.Proofs.YtjmkhdhffmlhiaaDoor.PAll
end
section
namespace Go.Proofs.YtjmkhdhffmlhiaaDoor.PAll
open Go.RowKit Go.Proofs.YtjmkhdhffmlhiaaDoorW.PrintWords Go.Proofs.YtjmkhdhffmlhiaaDoorW.PrintLast Go.Proofs.YtjmkhdhffmlhiaaDoorW.PrintMore
attribute [local go_sem] max2_int min2_int max_two min_two max_three min_three max_four min_four w64_u8 w64_mod256   -- for this text's walks alone
set_option linter.unusedVariables false
set_option linter.unusedSimpArgs false
end Go.Proofs.YtjmkhdhffmlhiaaDoor.PAll
end
section
namespace Go.Proofs.YtjmkhdhffmlhiaaDoor.PAll
set_option linter.unusedVariables false
set_option linter.unusedSimpArgs false
open Go.RowKit Go.Proofs.YtjmkhdhffmlhiaaDoorW.PrintWords Go.Proofs.YtjmkhdhffmlhiaaDoorW.PrintMore
theorem ev_r {α : Type} {g : Nat → Option α} {r s : α} (h : Ev g r) (e : r = s) : Ev g s := e ▸ h
def fl (n : Nat) (f : Nat → Bool) : List Bool := (List.range n).map f
theorem fl_len (n : Nat) (f : Nat → Bool) : (fl n f).length = n := by simp [fl]
theorem fl_rd {n i : Nat} (f : Nat → Bool) (hi : i < n) : rdOf false (fl n f) (i : Int) = f i := by
  simp [rdOf, fl, List.getD_eq_getElem?_getD, hi]
theorem wi {i n : Nat} (hn : n ≤ 4096) (hi : i < n) : wrap64 ((i : Int) + 1) = ((i + 1 : Nat) : Int) := by rw [w64_nat (by omega) (by omega)]; omega
def free (g : Nat → Bool) : Nat → Nat
  | 0 => 0
  | n + 1 => free g n + (bif g n then 0 else 1)
end Go.Proofs.YtjmkhdhffmlhiaaDoor.PAll
end
section
namespace Go.Proofs.YtjmkhdhffmlhiaaDoor.PAll
set_option linter.unusedVariables false
set_option linter.unusedSimpArgs false
open Go.RowKit Go.Shelf Go.Proofs.YtjmkhdhffmlhiaaDoorW.PrintWords
abbrev BT : TypeId := 114
abbrev U8 : TypeId := 5
theorem sizeBuilder : (Tryd.prog.info? BT).map (·.size) = some 2 := by kernel_rfl
theorem liesBuilder : liesAt Tryd.prog Tryd.prog.depth BT (2 / Tryd.prog.cellsOf BT) 0 BT 1 = true := by kernel_rfl
theorem infoByte : (Tryd.prog.info? U8).map (fun i => (i.zero, i.size, i.bytes)) = some (some (.int .u8 0), 1, 1) := by kernel_rfl
theorem tPtr : Tryd.prog.underlying 111 = some (.pointer BT) := by kernel_rfl
theorem tUns : Tryd.prog.underlying 147 = some .unsafePointer := by kernel_rfl
theorem tRow : Tryd.prog.underlying 112 = some (.slice U8) := by kernel_rfl
theorem fNoEscape : Tryd.prog.funcs[127]? = some Tryd.f127 := Tryd.func127
set_option maxHeartbeats 1000000 in
set_option maxRecDepth 100000 in
theorem copyCheck_used (b : Nat) (w : World) (h0 : w.cell? ⟨b, 0, none⟩ = some (.pointer (some ⟨b, 0, none⟩))) :
    Calls Tryd.prog 121 #[.pointer (some ⟨b, 0, none⟩)] w fun e w' => e = .returned (.tuple #[]) ∧ w' = w := by
  obtain ⟨j, hj, _⟩ := Option.map_eq_some_iff.1 sizeBuilder
  have h1 := tPtr
  go_enter Tryd.func121, Tryd.ntmps121
  go_wp2
  rw [Lib.run_neq_ptr_same w _ tPtr hj]
  go_wp2
  go_end0
  exact ⟨rfl, rfl⟩
set_option maxHeartbeats 1000000 in
set_option maxRecDepth 100000 in
theorem copyCheck_fresh (b : Nat) (w : World) (h0 : w.cell? ⟨b, 0, none⟩ = some (.pointer none)) (hsh : w.shape? b = some (BT, 2)) (hfz : w.frozen? ⟨b, 0, none⟩ = false) :
    Calls Tryd.prog 121 #[.pointer (some ⟨b, 0, none⟩)] w fun e w' => e = .returned (.tuple #[]) ∧ w' = w.setCell ⟨b, 0, none⟩ (.pointer (some ⟨b, 0, none⟩)) := by
  obtain ⟨j, hj, hjs⟩ := Option.map_eq_some_iff.1 sizeBuilder
  have h1 := tPtr
  have h2 := tUns
  go_enter Tryd.func121, Tryd.ntmps121
  go_wp2
  rw [Lib.run_to_unsafe w ⟨b, 0, none⟩ tPtr tUns hj (by rw [hjs]; decide) hsh (Nat.zero_lt_succ 1)]
  simp only [Result.andThen]
  rw [Oper.upon_value]
  go_wp2
  rw [run_callFunc_extern fNoEscape (by kernel_rfl) (by kernel_rfl) (by kernel_rfl) (e := Extern.AbiNoEscape.same) (by kernel_rfl)]
  rw [Lib.run_noEscape]
  simp only [Result.andThen]
  rw [Oper.upon_value]
  go_wp2
  rw [Lib.run_from_unsafe w ⟨b, 0, none⟩ tUns tPtr hj hsh liesBuilder]
  simp only [Result.andThen]
  rw [Oper.upon_value]
  go_wp2
  go_end0
  exact ⟨rfl, rfl⟩
theorem copyCheck (B b : Nat) (bs : List Value) (w : World) (h : Lib.IsBuilder BT U8 B b bs w) :
    Calls Tryd.prog 121 #[.pointer (some ⟨b, 0, none⟩)] w fun e w' => e = .returned (.tuple #[]) ∧ (Lib.BuilderAt BT U8 B b (.pointer (some ⟨b, 0, none⟩)) bs w' ∧ Below B w w') := by
  rcases h with h | h
  · refine (copyCheck_fresh b w h.cell0 h.shape h.frozen0).mono ?_
    rintro e w' ⟨rfl, rfl⟩
    exact ⟨rfl, h.used _, (Below.refl B w).setCell (p := ⟨b, 0, none⟩) h.1 _⟩
  · refine (copyCheck_used b w h.cell0).mono ?_
    rintro e w' ⟨rfl, rfl⟩
    exact ⟨rfl, h, Below.refl B _⟩
set_option maxHeartbeats 1000000 in
set_option maxRecDepth 100000 in
theorem writeByte (B b : Nat) (bs : List Value) (c : Int) (w : World) (h : Lib.IsBuilder BT U8 B b bs w) (hlen : bs.length + 1 ≤ 140737488355328) (hBw : B ≤ w.heap.size) :
    Calls Tryd.prog 102 #[.pointer (some ⟨b, 0, none⟩), .int .u8 c] w fun e w' => e = .returned .nilIface ∧ (Lib.BuilderAt BT U8 B b (.pointer (some ⟨b, 0, none⟩)) (bs ++ [.int .u8 c]) w' ∧ Below B w w') := by
  obtain ⟨i0, hi, hz0, hz1, hz2⟩ := info_parts infoByte
  have t1 := tPtr
  have t2 := tRow
  go_enter Tryd.func102, Tryd.ntmps102
  go_wp2_with (go_at_call 121; refine (copyCheck B b bs _ h).mono ?_)
  rintro e w1 ⟨rfl, h1, hb1⟩
  obtain ⟨hB, v, hbk, hown, hne⟩ := h1
  have c0 : w1.cell? ⟨b, 0, none⟩ = some (.pointer (some ⟨b, 0, none⟩)) := by rw [Lib.cell_of_heap hbk]; rfl
  have c1 : w1.cell? ⟨b, 1, none⟩ = some v := by rw [Lib.cell_of_heap hbk]; rfl
  go_wp2_with (at_builtin; refine wpList_append_own _ rfl _ _ 112 rfl B U8 i0 (.int .u8 0) 1 1 tRow hi hz0 hz1 hz2 rfl (by decide) _ _ _ rfl (hown.alloc _) ⟨w1.heap.size, 0, none⟩ 1 1 [.int .u8 c] rfl rfl ?c1 ?c2 ?c3 ?c4 ?c5 ?_)
  case c1 =>
    intro j u hj
    match j, hj with
    | 0, hj => simp at hj; subst hj; simp [Addr.add]
  case c2 => intro u hu; simp at hu; subst hu; rfl
  case c3 => unfold maxLen; omega
  case c4 => omega
  case c5 => have := hb1.size; simp; omega
  intro v' w2 hown' hgrow _
  have hlt : b < w1.heap.size := by
    rcases Nat.lt_or_ge b w1.heap.size with h' | h'
    · exact h'
    · simp [Array.getElem?_eq_none h'] at hbk
  have hb2 : w2.heap[b]? = some (.cells #[.pointer (some ⟨b, 0, none⟩), v] BT (0, 0)) := by
    rw [hgrow.block b (by simp; omega) (fun e => hne e.symm), Lib.alloc_old w1 _ b hlt]
    exact hbk
  have d0 : w2.cell? ⟨b, 0, none⟩ = some (.pointer (some ⟨b, 0, none⟩)) := by rw [Lib.cell_of_heap hb2]; rfl
  have d1 : w2.cell? ⟨b, 1, none⟩ = some v := by rw [Lib.cell_of_heap hb2]; rfl
  have f1 : w2.frozen? ⟨b, 1, none⟩ = false := Lib.frozen_of_heap hb2 1
  obtain ⟨g, cap, rfl⟩ : ∃ g cap, v' = .slice (some ⟨g, 0, none⟩) (bs.length + 1) cap := by
    rcases hown'.2 with ⟨_, h0⟩ | ⟨g, cap, cur, hv, _⟩
    · omega
    · exact ⟨g, cap, hv⟩
  go_wp2
  go_ret
  refine ⟨rfl, ?_, ?_⟩
  · exact Lib.BuilderAt.put (T := BT) (e := U8) hB hb2 (bs' := bs ++ [.int .u8 c]) (by simpa using hown') (by decide)
  · exact ((hb1.alloc (by have := hb1.size; omega) _).grown hgrow (by have := hb1.size; simp; omega) (fun k hk => (hown.lt k hk).1)).setCell (p := ⟨b, 1, none⟩) hB _
end Go.Proofs.YtjmkhdhffmlhiaaDoor.PAll
end
section
namespace Go.Proofs.YtjmkhdhffmlhiaaDoor.PAll
set_option linter.unusedVariables false
set_option linter.unusedSimpArgs false
open Go.RowKit Go.Shelf Go.Proofs.YtjmkhdhffmlhiaaDoorW.PrintWords Go.Proofs.YtjmkhdhffmlhiaaDoorW.PrintMore
def l169_ren : Go.Shelf.Ren := ⟨fun | 169 => 103 | n => n, fun | 70 => 111 | 9 => 9 | 0 => 0 | 72 => 114 | 37 => 112 | 127 => 143 | 3 => 3 | 5 => 5 | n => n, fun | n => n⟩
theorem l169 : Go.Proofs.Lays.n169 Tryd.prog l169_ren := {
  mixed := by kernel_rfl
  f169 := Tryd.func103.trans (congrArg some (by kernel_rfl))
  t0 := Tryd.underlying0
  a0 := Tryd.isAgg0
  z0 := Tryd.sizeOf0
  v0 := Tryd.zeroValue0
  t3 := Tryd.underlying3
  a3 := Tryd.isAgg3
  z3 := Tryd.sizeOf3
  v3 := Tryd.zeroValue3
  t9 := Tryd.underlying9
  a9 := Tryd.isAgg9
  z9 := Tryd.sizeOf9
  v9 := Tryd.zeroValue9
  t37 := Tryd.underlying112
  a37 := Tryd.isAgg112
  z37 := Tryd.sizeOf112
  v37 := Tryd.zeroValue112
  t70 := Tryd.underlying111
  a70 := Tryd.isAgg111
  z70 := Tryd.sizeOf111
  v70 := Tryd.zeroValue111
  t72 := Tryd.underlying114
  a72 := Tryd.isAgg114
  z72 := Tryd.sizeOf114
  v72 := Tryd.zeroValue114
  t127 := Tryd.underlying143
  a127 := Tryd.isAgg143
  z127 := Tryd.sizeOf143
  v127 := Tryd.zeroValue143 }
theorem e169 : Builder.Extra Tryd.prog l169_ren := {
  sizeBuilder := by kernel_rfl
  liesBuilder := by kernel_rfl
  t5 := Tryd.underlying5
  a5 := Tryd.isAgg5
  z5 := Tryd.sizeOf5
  v5 := Tryd.zeroValue5
  infoByte := by kernel_rfl
  cellsByte := by kernel_rfl
  sizeByte := by kernel_rfl
  neB5 := by decide }
theorem builderString (B b : Nat) (l : List UInt8) (w : World) (h : Lib.IsBuilder BT U8 B b (Lib.byteCells l) w) (hBw : B ≤ w.heap.size) :
    Calls Tryd.prog 103 #[.pointer (some ⟨b, 0, none⟩)] w fun e w' => e = .returned (.string ⟨l.toArray⟩) ∧ Below B w w' :=
  Any.Builder_String_any l169 e169 B b l w h hBw
theorem below_more {B : Nat} {w W W' : World} (h : Below w.heap.size w W) (h1 : Below B W W') (hB : w.heap.size ≤ B) : Below w.heap.size w W' := h.trans (h1.mono hB)
end Go.Proofs.YtjmkhdhffmlhiaaDoor.PAll
end
section
namespace Go.Proofs.YtjmkhdhffmlhiaaDoor.PAll
open Go.Shelf
def laysM171_ren : Go.Shelf.Ren := ⟨fun | 171 => 101 | 243 => 122 | 246 => 128 | 283 => 129 | 284 => 130 | 285 => 131 | 286 => 132 | 129 => 119 | 317 => 133 | 318 => 134 | 319 => 135 | 320 => 136 | 337 => 137 | 338 => 80 | n => n, fun | 3 => 3 | 9 => 9 | 2 => 2 | 4 => 4 | 171 => 150 | 0 => 0 | 53 => 87 | 37 => 112 | 5 => 5 | 173 => 152 | 212 => 155 | 51 => 156 | 20 => 20 | 213 => 157 | 46 => 140 | 232 => 160 | 233 => 141 | n => n, fun | 17 => 1 | 18 => 2 | 19 => 0 | n => n⟩
theorem laysM171 : Go.Proofs.LaysM.n171 Tryd.prog laysM171_ren := {
  mixed := by kernel_rfl
  f129 := Tryd.func119.trans (congrArg some (by kernel_rfl))
  f171 := Tryd.func101.trans (congrArg some (by kernel_rfl))
  f243 := Tryd.func122.trans (congrArg some (by kernel_rfl))
  f246 := Tryd.func128.trans (congrArg some (by kernel_rfl))
  f283 := Tryd.func129.trans (congrArg some (by kernel_rfl))
  f284 := Tryd.func130.trans (congrArg some (by kernel_rfl))
  f285 := Tryd.func131.trans (congrArg some (by kernel_rfl))
  f286 := Tryd.func132.trans (congrArg some (by kernel_rfl))
  f317 := Tryd.func133.trans (congrArg some (by kernel_rfl))
  f318 := Tryd.func134.trans (congrArg some (by kernel_rfl))
  f319 := Tryd.func135.trans (congrArg some (by kernel_rfl))
  f320 := Tryd.func136.trans (congrArg some (by kernel_rfl))
  f337 := Tryd.func137.trans (congrArg some (by kernel_rfl))
  f338 := Tryd.func80.trans (congrArg some (by kernel_rfl))
  t0 := Tryd.underlying0
  a0 := Tryd.isAgg0
  z0 := Tryd.sizeOf0
  v0 := Tryd.zeroValue0
  t2 := Tryd.underlying2
  a2 := Tryd.isAgg2
  z2 := Tryd.sizeOf2
  v2 := Tryd.zeroValue2
  t3 := Tryd.underlying3
  a3 := Tryd.isAgg3
  z3 := Tryd.sizeOf3
  v3 := Tryd.zeroValue3
  t4 := Tryd.underlying4
  a4 := Tryd.isAgg4
  z4 := Tryd.sizeOf4
  v4 := Tryd.zeroValue4
  t5 := Tryd.underlying5
  a5 := Tryd.isAgg5
  z5 := Tryd.sizeOf5
  v5 := Tryd.zeroValue5
  t9 := Tryd.underlying9
  a9 := Tryd.isAgg9
  z9 := Tryd.sizeOf9
  v9 := Tryd.zeroValue9
  t20 := Tryd.underlying20
  a20 := Tryd.isAgg20
  z20 := Tryd.sizeOf20
  v20 := Tryd.zeroValue20
  t37 := Tryd.underlying112
  a37 := Tryd.isAgg112
  z37 := Tryd.sizeOf112
  v37 := Tryd.zeroValue112
  t46 := Tryd.underlying140
  a46 := Tryd.isAgg140
  z46 := Tryd.sizeOf140
  v46 := Tryd.zeroValue140
  t51 := Tryd.underlying156
  a51 := Tryd.isAgg156
  z51 := Tryd.sizeOf156
  v51 := Tryd.zeroValue156
  t53 := Tryd.underlying87
  a53 := Tryd.isAgg87
  z53 := Tryd.sizeOf87
  v53 := Tryd.zeroValue87
  t171 := Tryd.underlying150
  a171 := Tryd.isAgg150
  z171 := Tryd.sizeOf150
  v171 := Tryd.zeroValue150
  t173 := Tryd.underlying152
  a173 := Tryd.isAgg152
  z173 := Tryd.sizeOf152
  v173 := Tryd.zeroValue152
  t212 := Tryd.underlying155
  a212 := Tryd.isAgg155
  z212 := Tryd.sizeOf155
  v212 := Tryd.zeroValue155
  t213 := Tryd.underlying157
  a213 := Tryd.isAgg157
  z213 := Tryd.sizeOf157
  t232 := Tryd.underlying160
  a232 := Tryd.isAgg160
  z232 := Tryd.sizeOf160
  v232 := Tryd.zeroValue160
  t233 := Tryd.underlying141
  a233 := Tryd.isAgg141
  z233 := Tryd.sizeOf141
  v233 := Tryd.zeroValue141
  g17 := by kernel_rfl
  g18 := by kernel_rfl
  g19 := by kernel_rfl
  i0 := by kernel_rfl
  i2 := by kernel_rfl
  i3 := by kernel_rfl
  i4 := by kernel_rfl
  i5 := by kernel_rfl
  i9 := by kernel_rfl
  i20 := by kernel_rfl
  i37 := by kernel_rfl
  i46 := by kernel_rfl
  i51 := by kernel_rfl
  i53 := by kernel_rfl
  i171 := by kernel_rfl
  i173 := by kernel_rfl
  i212 := by kernel_rfl
  i232 := by kernel_rfl
  i233 := by kernel_rfl
  m17 := by kernel_rfl
  m18 := by kernel_rfl
  m19 := by kernel_rfl }
open Go.RowKit Go.Sort Go.Lib in
theorem strconvItoa (n : Int) (h0 : -9223372036854775808 ≤ n) (h1 : n ≤ 9223372036854775807) (w : World) (htab : Lib.TabIs Tryd.prog w "internal/strconv.uint64pow10" .u64 Lib.pow10Tab) :
    Calls Tryd.prog 101 #[.int .i64 n] w fun e w' => e = .returned (.string ⟨(Lib.itoa n).toArray⟩) ∧ ∃ k os, w' = grow (w.drewN k) os := Any.strconv_Itoa laysM171 n h0 h1 w htab
end Go.Proofs.YtjmkhdhffmlhiaaDoor.PAll
end
section
namespace Go.Proofs.YtjmkhdhffmlhiaaDoor.PAll
set_option linter.unusedVariables false
set_option linter.unusedSimpArgs false
open Go.RowKit Go.Shelf Go.Proofs.YtjmkhdhffmlhiaaDoorW.PrintWords
theorem tStr : Tryd.prog.underlying 9 = some .string := by kernel_rfl
set_option maxHeartbeats 1000000 in
set_option maxRecDepth 100000 in
theorem writeString (B b : Nat) (bs : List Value) (s : ByteArray) (w : World) (h : Lib.IsBuilder BT U8 B b bs w) (hlen : bs.length + s.size ≤ 140737488355328) (hBw : B ≤ w.heap.size) :
    Calls Tryd.prog 100 #[.pointer (some ⟨b, 0, none⟩), .string s] w fun e w' => e = .returned (.tuple #[.int .i64 s.size, .nilIface]) ∧ (Lib.BuilderAt BT U8 B b (.pointer (some ⟨b, 0, none⟩)) (bs ++ Lib.strCells s) w' ∧ Below B w w') := by
  obtain ⟨i0, hi, hz0, hz1, hz2⟩ := info_parts infoByte
  have t1 := tPtr
  have t2 := tRow
  have t3 := tStr
  go_enter Tryd.func100, Tryd.ntmps100
  go_wp2_with (go_at_call 121; refine (copyCheck B b bs _ h).mono ?_)
  rintro e w1 ⟨rfl, h1, hb1⟩
  obtain ⟨hB, v, hbk, hown, hne⟩ := h1
  have c0 : w1.cell? ⟨b, 0, none⟩ = some (.pointer (some ⟨b, 0, none⟩)) := by rw [Lib.cell_of_heap hbk]; rfl
  have c1 : w1.cell? ⟨b, 1, none⟩ = some v := by rw [Lib.cell_of_heap hbk]; rfl
  go_wp2_with (at_builtin; refine Lib.wpList_append_own_string _ rfl _ _ 112 9 rfl B U8 i0 tRow tStr hi hz0 hz1 hz2 _ _ _ rfl hown s rfl ?c3 ?c4 ?c5 ?_)
  case c3 => unfold maxLen; omega
  case c4 => omega
  case c5 => have := hb1.size; omega
  intro v' w2 hown' hgrow _
  have hlt : b < w1.heap.size := by
    rcases Nat.lt_or_ge b w1.heap.size with h' | h'
    · exact h'
    · simp [Array.getElem?_eq_none h'] at hbk
  have hb2 : w2.heap[b]? = some (.cells #[.pointer (some ⟨b, 0, none⟩), v] BT (0, 0)) := by
    rw [hgrow.block b hlt (fun e => hne e.symm)]
    exact hbk
  have d0 : w2.cell? ⟨b, 0, none⟩ = some (.pointer (some ⟨b, 0, none⟩)) := by rw [Lib.cell_of_heap hb2]; rfl
  have d1 : w2.cell? ⟨b, 1, none⟩ = some v := by rw [Lib.cell_of_heap hb2]; rfl
  have f1 : w2.frozen? ⟨b, 1, none⟩ = false := Lib.frozen_of_heap hb2 1
  obtain ⟨ao, n', cap, rfl⟩ : ∃ ao n' cap, v' = .slice ao n' cap := by
    rcases hown'.2 with ⟨hv, _⟩ | ⟨g, cap, cur, hv, _⟩
    · exact ⟨_, _, _, hv⟩
    · exact ⟨_, _, _, hv⟩
  go_wp2
  go_ret2
  refine ⟨rfl, ?_, ?_⟩
  · exact Lib.BuilderAt.put (T := BT) (e := U8) hB hb2 (bs' := bs ++ Lib.strCells s) (by simpa [Lib.strCells_length] using hown') (by decide)
  · exact (hb1.grown hgrow (by have := hb1.size; omega) (fun k hk => (hown.lt k hk).1)).setCell (p := ⟨b, 1, none⟩) hB _
def Pw (w : World) : Prop := Lib.TabIs Tryd.prog w "internal/strconv.uint64pow10" .u64 Lib.pow10Tab
theorem pw_at {w W : World} (h : Pw w) (hb : Below w.heap.size w W) : Pw W := by
  unfold Pw Lib.TabIs World.var? at *
  cases hg : Tryd.prog.globalNamed "internal/strconv.uint64pow10" with
  | none => simp [hg] at h
  | some g =>
    simp only [hg, Option.bind_some] at h ⊢
    have hlt : g < w.heap.size := by
      rcases Nat.lt_or_ge g w.heap.size with h' | h'
      · exact h'
      · rw [Array.getElem?_eq_none h'] at h; simp at h
    rw [hb.block g hlt]
    exact h
theorem itoa_calls (n : Nat) (hn : n ≤ 1000000) (w : World) (hP : Pw w) : Calls Tryd.prog 101 #[.int .i64 (n : Nat)] w fun e w' => e = .returned (.string ⟨(Lib.decDigits n).toArray⟩) ∧ Below w.heap.size w w' := by
  refine (strconvItoa (n : Nat) (by omega) (by omega) w hP).mono ?_
  rintro e w' ⟨rfl, k, os, rfl⟩
  refine ⟨?_, Lib.below_grow _ w (Nat.le_refl _) k os⟩
  unfold Lib.itoa
  rw [if_neg (by omega), Int.toNat_natCast]
end Go.Proofs.YtjmkhdhffmlhiaaDoor.PAll
end
section
namespace Go.Proofs.YtjmkhdhffmlhiaaDoor.PAll
open Go.RowKit Go.Proofs.YtjmkhdhffmlhiaaDoorW.PrintWords Go.Proofs.YtjmkhdhffmlhiaaDoorW.PrintLast Go.Proofs.YtjmkhdhffmlhiaaDoorW.PrintMore
attribute [local go_sem] max2_int min2_int max_two min_two max_three min_three max_four min_four w64_u8 w64_mod256   -- for this text's walks alone
set_option linter.unusedVariables false
set_option linter.unusedSimpArgs false
def sloperef3_Decimal.l0 : Nat → Int → ByteArray → Option (ByteArray)
  | 0, _, _ => none
  | k + 1, x0, x3 => if x0 ≥ 10 then ((some (([(wrap64 (48 + (Int.tmod x0 10))) % 256] : List Int) : List Int)).bind fun y101 => (if (strOfNums y101).size + x3.size ≤ 9223372036854775807 then (sloperef3_Decimal.l0 k (wrap64 (Int.tdiv x0 10)) ((strOfNums y101) ++ x3)) else (none))) else ((some (([(wrap64 (48 + x0)) % 256] : List Int) : List Int)).bind fun y104 => (if (strOfNums y104).size + x3.size ≤ 9223372036854775807 then (some ((strOfNums y104) ++ x3)) else (none)))
def sloperef3_Decimal.f (k : Nat) (a0 : Int) : Option (ByteArray) := sloperef3_Decimal.l0 k a0 (⟨#[]⟩ : ByteArray)
set_option maxHeartbeats 8000000 in
set_option maxRecDepth 100000 in
theorem sloperef3_Decimal.calls (k : Nat) (a0 : Int) (r : ByteArray) (w : World) (h : sloperef3_Decimal.f k a0 = some r) :
    Calls Tryd.prog 105 #[.int .i64 a0] w fun e w' => e = .returned (.string r) ∧ Below w.heap.size w w' := by
  have HB := Aside0.mk (Below.refl w.heap.size w)
  have H : (sloperef3_Decimal.l0 k a0 (⟨#[]⟩ : ByteArray)) = some r := h
  clear h
  have H' := Aside0.mk H
  clear H
  go_enter Tryd.func105, Tryd.ntmps105
  go_wp2
  go_loopg [0, 3] k (fun kq v0 v3 w' => ∃ (x0_1 : Int) (x3_1 : ByteArray), v0 = .int .i64 x0_1 ∧ v3 = .string x3_1 ∧ Aside0 (sloperef3_Decimal.l0 kq x0_1 x3_1 = some r) ∧ Aside0 (kq ≤ k) ∧ Aside0 (Below w.heap.size w w'))
  case atStart => exact ⟨(a0), ((⟨#[]⟩ : ByteArray)), (by first | rfl | (simp; done) | (simp [*]; done)), (by first | rfl | (simp; done) | (simp [*]; done)), H', ⟨Nat.le_refl _⟩, ⟨by repeat (first | (with_reducible first | exact HB.out | apply below_alloc | apply pw_below_drewN | apply below_drew1) | exact HB.out)⟩⟩
  case round =>
    clear H'
    try clear c1
    obtain ⟨x0_1, x3_1, rfl, rfl, HA, HK1, HB⟩ := hrel
    cases gk with
    | zero => exact absurd HA.out (by simp [sloperef3_Decimal.l0])
    | succ k1 =>
      have H := HA.out
      clear HA
      simp only [sloperef3_Decimal.l0] at H
      by_cases c2 : x0_1 ≥ 10
      · rw [if_pos c2] at H
        have c2b0 : decide (10 ≤ x0_1) = true := decide_eq_true c2
        clear c2
        obtain ⟨y101, hy101⟩ : ∃ y_ : List Int, y_ = (([(wrap64 (48 + (Int.tmod x0_1 10))) % 256] : List Int)) := ⟨_, rfl⟩
        replace H : (if (strOfNums y101).size + x3_1.size ≤ 9223372036854775807 then (sloperef3_Decimal.l0 k1 (wrap64 (Int.tdiv x0_1 10)) ((strOfNums y101) ++ x3_1)) else (none)) = some r := by first | (rw [hy101]; with_reducible exact H) | (have H2_ := (Option.bind_some _ _).symm.trans H; rw [hy101]; with_reducible exact H2_) | (have H2_ := (Option.bind_some _ _).symm.trans H; with_reducible exact H2_) | with_reducible exact H | (rw [hy101]; exact H) | exact H
        have Ny101 := Aside0.mk hy101
        clear hy101
        by_cases c3 : (strOfNums y101).size + x3_1.size ≤ 9223372036854775807
        · rw [if_pos c3] at H
          have c3b0 := eq_true c3
          have c3b1 : decide ((strOfNums y101).size + x3_1.size ≤ 9223372036854775807) = true := decide_eq_true c3
          try have c3b2 : (9223372036854775807 < (strOfNums y101).size + x3_1.size) = False := eq_false (Nat.not_lt.2 c3)
          have H' := Aside0.mk H
          clear H
          go_wp2_with (first | ((with_reducible refine gate_dst (N := 10) rfl ?_); refine Kd.R_lit (Kd.int .u8) _ 5 ?hg (N := 10) ?hd (xs := ([(wrap64 (48 + (Int.tmod x0_1 10))) % 256] : List Int)) (inner := [.int .u8 ((wrap64 (48 + (Int.tmod x0_1 10))) % 256)]) (ok := fun _ => True) (okp := fun _ => True) ?hr ?hp (fun _ hk => hk) trivial (Below.refl _ _) (Nat.le_refl _) (by simp) ?_; (case hd => rfl); (case hg => rfl); (case hr => first | (go_simp; done) | (go_simp; rfl)); (case hp => exact (Reps.one (show Kd.M (Kd.int .u8) _ _ _ ((wrap64 (48 + (Int.tmod x0_1 10))) % 256) [.int .u8 ((wrap64 (48 + (Int.tmod x0_1 10))) % 256)] from rfl) (Reps.none _ _))); intro v102 w4 ho5 hb hg_ hnew_; clear hg_ hnew_; (first | rw [← Ny101.out] at ho5 | (simp only [Int.reduceToNat] at ho5; rw [← Ny101.out] at ho5)); have n0_ := Aside0.mk (Kd.R_lower ho5 (below_size (by repeat (first | (with_reducible first | exact HB.out | apply below_alloc | apply pw_below_drewN | apply below_drew1) | exact HB.out)))); have n1_ := Aside0.mk (below_step (by repeat (first | (with_reducible first | exact HB.out | apply below_alloc | apply pw_below_drewN | apply below_drew1) | exact HB.out)) hb); clear HB; have HO103 := n0_; have HB := n1_; clear n0_ n1_; clear hb ho5; have hcv6 := own_string (P := Tryd.prog) Tryd.underlying112 Tryd.underlying5 Tryd.underlying9 (Kd.own_of_R HO103.out)))
          go_roundg k1
          case measure => have := HK1.out; omega
          case rel => exact ⟨(wrap64 (Int.tdiv x0_1 10)), ((strOfNums y101) ++ x3_1), (by first | rfl | (simp; done) | (simp [*]; done)), (by first | rfl | (simp; done) | (simp [*]; done)), H', ⟨by have := HK1.out; omega⟩, ⟨by repeat (first | (with_reducible first | exact HB.out | apply below_alloc | apply pw_below_drewN | apply below_drew1) | exact HB.out)⟩⟩
        · rw [if_neg c3] at H
          exact absurd H (by simp)
      · rw [if_neg c2] at H
        have c2b0 : decide (10 ≤ x0_1) = false := decide_eq_false c2
        clear c2
        obtain ⟨y104, hy104⟩ : ∃ y_ : List Int, y_ = (([(wrap64 (48 + x0_1)) % 256] : List Int)) := ⟨_, rfl⟩
        replace H : (if (strOfNums y104).size + x3_1.size ≤ 9223372036854775807 then (some ((strOfNums y104) ++ x3_1)) else (none)) = some r := by first | (rw [hy104]; with_reducible exact H) | (have H2_ := (Option.bind_some _ _).symm.trans H; rw [hy104]; with_reducible exact H2_) | (have H2_ := (Option.bind_some _ _).symm.trans H; with_reducible exact H2_) | with_reducible exact H | (rw [hy104]; exact H) | exact H
        have Ny104 := Aside0.mk hy104
        clear hy104
        by_cases c7 : (strOfNums y104).size + x3_1.size ≤ 9223372036854775807
        · rw [if_pos c7] at H
          have c7b0 := eq_true c7
          have c7b1 : decide ((strOfNums y104).size + x3_1.size ≤ 9223372036854775807) = true := decide_eq_true c7
          try have c7b2 : (9223372036854775807 < (strOfNums y104).size + x3_1.size) = False := eq_false (Nat.not_lt.2 c7)
          obtain rfl := Option.some.inj H
          go_wp2_with (first | ((with_reducible refine gate_dst (N := 19) rfl ?_); refine Kd.R_lit (Kd.int .u8) _ 5 ?hg (N := 19) ?hd (xs := ([(wrap64 (48 + x0_1)) % 256] : List Int)) (inner := [.int .u8 ((wrap64 (48 + x0_1)) % 256)]) (ok := fun _ => True) (okp := fun _ => True) ?hr ?hp (fun _ hk => hk) trivial (Below.refl _ _) (Nat.le_refl _) (by simp) ?_; (case hd => rfl); (case hg => rfl); (case hr => first | (go_simp; done) | (go_simp; rfl)); (case hp => exact (Reps.one (show Kd.M (Kd.int .u8) _ _ _ ((wrap64 (48 + x0_1)) % 256) [.int .u8 ((wrap64 (48 + x0_1)) % 256)] from rfl) (Reps.none _ _))); intro v105 w8 ho9 hb hg_ hnew_; clear hg_ hnew_; (first | rw [← Ny104.out] at ho9 | (simp only [Int.reduceToNat] at ho9; rw [← Ny104.out] at ho9)); have n0_ := Aside0.mk (Kd.R_lower ho9 (below_size (by repeat (first | (with_reducible first | exact HB.out | apply below_alloc | apply pw_below_drewN | apply below_drew1) | exact HB.out)))); have n1_ := Aside0.mk (below_step (by repeat (first | (with_reducible first | exact HB.out | apply below_alloc | apply pw_below_drewN | apply below_drew1) | exact HB.out)) hb); clear HB; have HO106 := n0_; have HB := n1_; clear n0_ n1_; clear hb ho9; have hcv10 := own_string (P := Tryd.prog) Tryd.underlying112 Tryd.underlying5 Tryd.underlying9 (Kd.own_of_R HO106.out)))
          go_ret
          exact ⟨by first | rfl | (simp [errW_none, errW_some] <;> rfl) | (simp [*, errW_none, errW_some] <;> rfl), by repeat (first | (with_reducible first | exact HB.out | apply below_alloc | apply pw_below_drewN | apply below_drew1) | exact HB.out)⟩
        · rw [if_neg c7] at H
          exact absurd H (by simp)
end Go.Proofs.YtjmkhdhffmlhiaaDoor.PAll
end
section
namespace Go.Proofs.YtjmkhdhffmlhiaaDoor.PAll
open Go.RowKit Go.Proofs.YtjmkhdhffmlhiaaDoorW.PrintWords Go.Proofs.YtjmkhdhffmlhiaaDoorW.PrintLast Go.Proofs.YtjmkhdhffmlhiaaDoorW.PrintMore
attribute [local go_sem] max2_int min2_int max_two min_two max_three min_three max_four min_four w64_u8 w64_mod256   -- for this text's walks alone
set_option linter.unusedVariables false
set_option linter.unusedSimpArgs false
mutual
def sloperef3_Print.l0 : Nat → List Bool → ByteArray → ByteArray → Int → Option (ByteArray × Int)
  | 0, _, _, _, _ => none
  | k + 1, x4, x5, x6, x7 => if x7 < (x4.length : Int) then (if 0 ≤ x7 then (if rdOf false x4 x7 = true then (if x7 = 0 then (sloperef3_Print.j1 k x4 x5 x6 x7 true) else (if 0 ≤ (wrap64 (x7 - 1)) then (if (wrap64 (x7 - 1)) < (x4.length : Int) then (sloperef3_Print.j1 k x4 x5 x6 x7 (!(rdOf false x4 (wrap64 (x7 - 1))))) else (none)) else (none))) else (sloperef3_Print.j1 k x4 x5 x6 x7 false)) else (none)) else (some (x5, 0))
def sloperef3_Print.j1 : Nat → List Bool → ByteArray → ByteArray → Int → Bool → Option (ByteArray × Int)
  | 0, _, _, _, _, _ => none
  | k + 1, x4, x5, x6, x7, x8 => if 0 ≤ x7 then (if x7 < (x4.length : Int) then (if rdOf false x4 x7 = true then (if x7 = (wrap64 ((x4.length : Int) - 1)) then (sloperef3_Print.j2 k x4 x5 x6 x7 x8 true) else (if 0 ≤ (wrap64 (x7 + 1)) then (if (wrap64 (x7 + 1)) < (x4.length : Int) then (sloperef3_Print.j2 k x4 x5 x6 x7 x8 (!(rdOf false x4 (wrap64 (x7 + 1))))) else (none)) else (none))) else (sloperef3_Print.j2 k x4 x5 x6 x7 x8 false)) else (none)) else (none)
def sloperef3_Print.j2 : Nat → List Bool → ByteArray → ByteArray → Int → Bool → Bool → Option (ByteArray × Int)
  | 0, _, _, _, _, _, _ => none
  | k + 1, x4, x5, x6, x7, x8, x9 => if x8 = true then (if x5.size + x6.size ≤ 9223372036854775807 then ((sloperef3_Decimal.f k x7).bind fun t111 => (if (x5 ++ x6).size + t111.size ≤ 9223372036854775807 then (if x9 = true then (sloperef3_Print.l0 k x4 ((x5 ++ x6) ++ t111) (⟨#[44]⟩ : ByteArray) (wrap64 (x7 + 1))) else (sloperef3_Print.l0 k x4 ((x5 ++ x6) ++ t111) (⟨#[44]⟩ : ByteArray) (wrap64 (x7 + 1)))) else (none))) else (none)) else (if x9 = true then (if x5.size + 1 ≤ 9223372036854775807 then ((sloperef3_Decimal.f k x7).bind fun t112 => (if (x5 ++ (⟨#[45]⟩ : ByteArray)).size + t112.size ≤ 9223372036854775807 then (sloperef3_Print.l0 k x4 ((x5 ++ (⟨#[45]⟩ : ByteArray)) ++ t112) x6 (wrap64 (x7 + 1))) else (none))) else (none)) else (sloperef3_Print.l0 k x4 x5 x6 (wrap64 (x7 + 1))))
end
def sloperef3_Print.f (k : Nat) (a0_0 : Int) (l0_1 : List Int) : Option (ByteArray × Int) := (sloperef3_May.f k a0_0 l0_1).bind fun t102 => (if t102 = true then ((sloperef3_List.f k a0_0 l0_1).bind fun t103 => ((sloperef3_Decimal.f k a0_0).bind fun t106 => (if t106.size + 1 ≤ 9223372036854775807 then (sloperef3_Print.l0 k t103 (t106 ++ (⟨#[58]⟩ : ByteArray)) (⟨#[]⟩ : ByteArray) 0) else (none)))) else (some ((⟨#[]⟩ : ByteArray), 61)))
set_option maxHeartbeats 8000000 in
set_option maxRecDepth 100000 in
theorem sloperef3_Print.calls (k : Nat) (a0_0 : Int) (A0_1 : Option Addr) (c0_1 : Nat) (l0_1 : List Int) (r1 : ByteArray) (r2 : Int) (w : World) (hr0_1 : Kd.C (Kd.int .u64) w A0_1 l0_1.length l0_1) (hc0_1 : l0_1.length ≤ c0_1) (h : sloperef3_Print.f k a0_0 l0_1 = some (r1, r2)) :
    Calls Tryd.prog 62 #[.agg #[.int .i64 a0_0, .slice A0_1 l0_1.length c0_1]] w fun e w' => e = .returned (.tuple #[.string r1, .int .i64 r2]) ∧ Below w.heap.size w w' := by
  have hu24 := Tryd.underlying24
  have HR0_1 := Aside0.mk hr0_1
  have HC0_1 := Aside0.mk hc0_1
  clear hr0_1 hc0_1
  have HB := Aside0.mk (Below.refl w.heap.size w)
  have H : ((sloperef3_May.f k a0_0 l0_1).bind fun t102 => (if t102 = true then ((sloperef3_List.f k a0_0 l0_1).bind fun t103 => ((sloperef3_Decimal.f k a0_0).bind fun t106 => (if t106.size + 1 ≤ 9223372036854775807 then (sloperef3_Print.l0 k t103 (t106 ++ (⟨#[58]⟩ : ByteArray)) (⟨#[]⟩ : ByteArray) 0) else (none)))) else (some ((⟨#[]⟩ : ByteArray), 61)))) = some (r1, r2) := h
  clear h
  replace H := Option.bind_eq_some_iff.mp H
  obtain ⟨t102, A20, H⟩ := H
  replace H : (if t102 = true then ((sloperef3_List.f k a0_0 l0_1).bind fun t103 => ((sloperef3_Decimal.f k a0_0).bind fun t106 => (if t106.size + 1 ≤ 9223372036854775807 then (sloperef3_Print.l0 k t103 (t106 ++ (⟨#[58]⟩ : ByteArray)) (⟨#[]⟩ : ByteArray) 0) else (none)))) else (some ((⟨#[]⟩ : ByteArray), 61))) = some (r1, r2) := H
  have A2 := Aside0.mk A20
  clear A20
  by_cases c3 : t102 = true
  · subst c3
    have H1 : ((sloperef3_List.f k a0_0 l0_1).bind fun t103 => ((sloperef3_Decimal.f k a0_0).bind fun t106 => (if t106.size + 1 ≤ 9223372036854775807 then (sloperef3_Print.l0 k t103 (t106 ++ (⟨#[58]⟩ : ByteArray)) (⟨#[]⟩ : ByteArray) 0) else (none)))) = some (r1, r2) := by rw [if_pos rfl] at H; exact H
    clear H
    have H := H1
    clear H1
    replace H := Option.bind_eq_some_iff.mp H
    obtain ⟨t103, A40, H⟩ := H
    replace H : ((sloperef3_Decimal.f k a0_0).bind fun t106 => (if t106.size + 1 ≤ 9223372036854775807 then (sloperef3_Print.l0 k t103 (t106 ++ (⟨#[58]⟩ : ByteArray)) (⟨#[]⟩ : ByteArray) 0) else (none))) = some (r1, r2) := H
    have A4 := Aside0.mk A40
    clear A40
    replace H := Option.bind_eq_some_iff.mp H
    obtain ⟨t106, A50, H⟩ := H
    replace H : (if t106.size + 1 ≤ 9223372036854775807 then (sloperef3_Print.l0 k t103 (t106 ++ (⟨#[58]⟩ : ByteArray)) (⟨#[]⟩ : ByteArray) 0) else (none)) = some (r1, r2) := H
    have A5 := Aside0.mk A50
    clear A50
    by_cases c6 : t106.size + 1 ≤ 9223372036854775807
    · rw [if_pos c6] at H
      have c6b0 := eq_true c6
      have c6b1 : decide (t106.size + 1 ≤ 9223372036854775807) = true := decide_eq_true c6
      try have c6b2 : (9223372036854775807 < t106.size + 1) = False := eq_false (Nat.not_lt.2 c6)
      have H' := Aside0.mk H
      clear H
      go_enter Tryd.func62, Tryd.ntmps62
      go_wp2_with (first | ((with_reducible refine gate_dst (N := 1) rfl ?_); (try (refine gate_guard (by rfl) ?_; dsimp only)); refine box_event ?hg (N := 1) ?hd (cs := #[.int .i64 a0_0, .slice A0_1 l0_1.length c0_1]) (t := 24) ?hr ?_; (case hd => rfl); (case hg => rfl); (case hr => first | (go_simp; done) | (go_simp; rfl)); intro gb101 hg w7 hbox hb; have n0_ := Aside0.mk (below_step (by repeat (first | (with_reducible first | exact HB.out | apply below_alloc | apply pw_below_drewN | apply below_drew1) | exact HB.out)) hb); have n1_ := Aside0.mk (hbox); have n2_ := Aside0.mk ((by rw [hg]; exact (below_size (by repeat (first | (with_reducible first | exact HB.out | apply below_alloc | apply pw_below_drewN | apply below_drew1) | exact HB.out))) : w.heap.size ≤ gb101)); have n3_ := Aside0.mk ((by rw [hg]; exact (below_size (by repeat (first | (with_reducible first | exact HB.out | apply below_alloc | apply pw_below_drewN | apply below_drew1) | exact HB.out))) : w.heap.size ≤ gb101)); clear HB; have HB := n0_; have BK101 := n1_; have GW101 := n2_; have GE101 := n3_; clear n0_ n1_ n2_ n3_; clear hb hbox hg; have hcz8_0 : w7.cell? ⟨gb101, 0, none⟩ = some (.int .i64 a0_0) := (blk_cell BK101.out 0).trans rfl; have hcz8_1 : w7.cell? ⟨gb101, 1, none⟩ = some (.slice A0_1 l0_1.length c0_1) := (blk_cell BK101.out 1).trans rfl; have hfz8_0 := blk_frozen BK101.out 0; have hfz8_1 := blk_frozen BK101.out 1) | ((with_reducible refine gate_callee (f := 63) rfl ?_); refine goesL_ (some 11) rfl rfl Tryd.func63 (by kernel_rfl) rfl #[.agg #[.int .i64 a0_0, .slice A0_1 l0_1.length c0_1]] rfl (by (try simp only [List.map_toArray, List.map_cons, List.map_nil]); first | done | rfl | (simp only [List.length_drop, List.length_take]; rfl)) ?_; (with_reducible refine (sloperef3_May.calls k a0_0 _ _ l0_1 true _ ?side1 ?side2 A2.out).mono ?_); (case side1 => repeat (first | exact (Kd.C_below HR0_1.out HB.out) | (with_reducible refine Kd.C_alloc ?_ _) | (with_reducible refine Kd.C_drewN ?_ _) | (with_reducible refine Kd.C_drew ?_))); (case side2 => exact HC0_1.out); rintro e w9 ⟨rfl, hb⟩; refine ⟨_, rfl, ?_⟩; have n0_ := Aside0.mk (blk_below (g := gb101) (o := .cells #[.int .i64 a0_0, .slice A0_1 l0_1.length c0_1] 24 (0, 0)) (by (with_reducible repeat (first | refine blk_drewN ?_ _ | refine blk_drew ?_ | refine blk_alloc ?_ _)); exact BK101.out) hb); have n1_ := Aside0.mk (below_step (by repeat (first | (with_reducible first | exact HB.out | apply below_alloc | apply pw_below_drewN | apply below_drew1 | refine below_set ?_ GE101.out) | exact HB.out)) hb); clear BK101; clear HB; have BK101 := n0_; have HB := n1_; clear n0_ n1_; (try clear hb); (try clear hb2); (try clear hk); (try clear hi); have hcz10_0 : w9.cell? ⟨gb101, 0, none⟩ = some (.int .i64 a0_0) := (blk_cell BK101.out 0).trans rfl; have hcz10_1 : w9.cell? ⟨gb101, 1, none⟩ = some (.slice A0_1 l0_1.length c0_1) := (blk_cell BK101.out 1).trans rfl; have hfz10_0 := blk_frozen BK101.out 0; have hfz10_1 := blk_frozen BK101.out 1) | ((with_reducible refine gate_callee (f := 104) rfl ?_); refine goesL_ (some 14) rfl rfl Tryd.func104 (by kernel_rfl) rfl #[.agg #[.int .i64 a0_0, .slice A0_1 l0_1.length c0_1]] rfl (by (try simp only [List.map_toArray, List.map_cons, List.map_nil]); first | done | rfl | (simp only [List.length_drop, List.length_take]; rfl)) ?_; (with_reducible refine (sloperef3_List.calls k a0_0 _ _ l0_1 t103 _ ?side1 ?side2 A4.out).mono ?_); (case side1 => repeat (first | exact (Kd.C_below HR0_1.out HB.out) | (with_reducible refine Kd.C_alloc ?_ _) | (with_reducible refine Kd.C_drewN ?_ _) | (with_reducible refine Kd.C_drew ?_))); (case side2 => exact HC0_1.out); rintro e w11 ⟨v104, rfl, ho0, hb⟩; refine ⟨_, rfl, ?_⟩; have n0_ := Aside0.mk (Kd.R_lower ho0 (below_size (by repeat (first | (with_reducible first | exact HB.out | apply below_alloc | apply pw_below_drewN | apply below_drew1 | refine below_set ?_ GE101.out) | exact HB.out)))); have n1_ := Aside0.mk (blk_below (g := gb101) (o := .cells #[.int .i64 a0_0, .slice A0_1 l0_1.length c0_1] 24 (0, 0)) (by (with_reducible repeat (first | refine blk_drewN ?_ _ | refine blk_drew ?_ | refine blk_alloc ?_ _)); exact BK101.out) hb); have n2_ := Aside0.mk (below_step (by repeat (first | (with_reducible first | exact HB.out | apply below_alloc | apply pw_below_drewN | apply below_drew1 | refine below_set ?_ GE101.out) | exact HB.out)) hb); clear BK101; clear HB; have HO105 := n0_; have BK101 := n1_; have HB := n2_; clear n0_ n1_ n2_; (try clear hb); (try clear hb2); (try clear hk); (try clear hi); (try clear ho0); have hcz12_0 : w11.cell? ⟨gb101, 0, none⟩ = some (.int .i64 a0_0) := (blk_cell BK101.out 0).trans rfl; have hcz12_1 : w11.cell? ⟨gb101, 1, none⟩ = some (.slice A0_1 l0_1.length c0_1) := (blk_cell BK101.out 1).trans rfl; have hfz12_0 := blk_frozen BK101.out 0; have hfz12_1 := blk_frozen BK101.out 1) | ((with_reducible refine gate_callee (f := 105) rfl ?_); refine goesL_ (some 17) rfl rfl Tryd.func105 (by kernel_rfl) rfl #[.int .i64 a0_0] rfl (by (try simp only [List.map_toArray, List.map_cons, List.map_nil]); first | done | rfl | (simp only [List.length_drop, List.length_take]; rfl)) ?_; (with_reducible refine (sloperef3_Decimal.calls k a0_0 t106 _ A5.out).mono ?_); rintro e w13 ⟨rfl, hb⟩; refine ⟨_, rfl, ?_⟩; have n0_ := Aside0.mk (Kd.R_below (by (with_reducible repeat (first | apply Kd.R_alloc | apply Kd.R_drewN | apply Kd.R_drew)); exact HO105.out) hb); have n1_ := Aside0.mk (blk_below (g := gb101) (o := .cells #[.int .i64 a0_0, .slice A0_1 l0_1.length c0_1] 24 (0, 0)) (by (with_reducible repeat (first | refine blk_drewN ?_ _ | refine blk_drew ?_ | refine blk_alloc ?_ _)); exact BK101.out) hb); have n2_ := Aside0.mk (below_step (by repeat (first | (with_reducible first | exact HB.out | apply below_alloc | apply pw_below_drewN | apply below_drew1 | refine below_set ?_ GE101.out) | exact HB.out)) hb); clear HO105; clear BK101; clear HB; have HO105 := n0_; have BK101 := n1_; have HB := n2_; clear n0_ n1_ n2_; (try clear hb); (try clear hb2); (try clear hk); (try clear hi)))
      go_loopg [5, 6, 7] k (fun kq v5 v6 v7 w' => ∃ (x5_1 : ByteArray) (x6_1 : ByteArray) (x7_1 : Int), v5 = .string x5_1 ∧ v6 = .string x6_1 ∧ v7 = .int .i64 x7_1 ∧ Aside0 (sloperef3_Print.l0 kq t103 x5_1 x6_1 x7_1 = some (r1, r2)) ∧ Aside0 (kq ≤ k) ∧ Aside0 (Kd.R Kd.bool 4 w' w.heap.size (fun _ => True) v104 t103) ∧ Aside0 (w'.heap[gb101]? = some (.cells #[.int .i64 a0_0, (.slice A0_1 l0_1.length c0_1)] 24 (0, 0))) ∧ Aside0 (Below w.heap.size w w'))
      case atStart => exact ⟨(t106 ++ (⟨#[58]⟩ : ByteArray)), ((⟨#[]⟩ : ByteArray)), (0), (by first | rfl | (simp; done) | (simp [*]; done)), (by first | rfl | (simp; done) | (simp [*]; done)), (by first | rfl | (simp; done) | (simp [*]; done)), H', ⟨Nat.le_refl _⟩, ⟨by (with_reducible repeat (first | apply Kd.R_alloc | apply Kd.R_drewN | apply Kd.R_drew)); exact HO105.out⟩, ⟨by (with_reducible repeat (first | refine blk_drewN ?_ _ | refine blk_drew ?_ | refine blk_alloc ?_ _)); exact BK101.out⟩, ⟨by repeat (first | (with_reducible first | exact HB.out | apply below_alloc | apply pw_below_drewN | apply below_drew1 | refine below_set ?_ GE101.out) | exact HB.out)⟩⟩
      case round =>
        clear H'
        try clear c1
        try clear p2
        try clear c3
        try clear c6
        try clear c6b0
        try clear c6b1
        try clear c6b2
        try clear c10
        try clear hcz10_0
        try clear hcz10_1
        try clear hcz12_0
        try clear hcz12_1
        try clear hcz8_0
        try clear hcz8_1
        try clear hfz10_0
        try clear hfz10_1
        try clear hfz12_0
        try clear hfz12_1
        try clear hfz8_0
        try clear hfz8_1
        obtain ⟨x5_1, x6_1, x7_1, rfl, rfl, rfl, HA, HK1, HO_4, BK101, HB⟩ := hrel
        cases gk with
        | zero => exact absurd HA.out (by simp [sloperef3_Print.l0])
        | succ k1 =>
          have H := HA.out
          clear HA
          simp only [sloperef3_Print.l0] at H
          by_cases c14 : x7_1 < (t103.length : Int)
          · rw [if_pos c14] at H
            have c14b0 : decide (x7_1 < (t103.length : Int)) = true := decide_eq_true c14
            clear c14
            have HC15 := Aside0.mk H
            clear H
            obtain ⟨Ao16, co16, eo16⟩ := Kd.R_slice HO_4.out
            subst eo16
            go_upto_region 9 with (fail)
            go_cut [8] (fun v8 wc => ∃ (kq : Nat) (x8_14 : Bool), v8 = .bool x8_14 ∧ Aside0 (sloperef3_Print.j1 kq t103 x5_1 x6_1 x7_1 x8_14 = some (r1, r2)) ∧ Aside0 (kq ≤ k1) ∧ Aside0 (Kd.R Kd.bool 4 wc w.heap.size (fun _ => True) (.slice Ao16 t103.length co16) t103) ∧ Aside0 (wc.heap[gb101]? = some (.cells #[.int .i64 a0_0, (.slice A0_1 l0_1.length c0_1)] 24 (0, 0))) ∧ Aside0 (Below w.heap.size w wc))
            case first =>
              have H := HC15.out
              clear HC15
              by_cases c17 : 0 ≤ x7_1
              · rw [if_pos c17] at H
                have c17b0 : decide (0 ≤ x7_1) = true := decide_eq_true c17
                clear c17
                (first | rw [c17b0] | (simp only [i64_w, i32_w]; rw [c17b0]) | skip)
                obtain ⟨bq18, hbq18⟩ : ∃ b_ : Bool, b_ = (rdOf false t103 x7_1) := ⟨_, rfl⟩
                replace H : (if bq18 = true then (if x7_1 = 0 then (sloperef3_Print.j1 k1 t103 x5_1 x6_1 x7_1 true) else (if 0 ≤ (wrap64 (x7_1 - 1)) then (if (wrap64 (x7_1 - 1)) < (t103.length : Int) then (sloperef3_Print.j1 k1 t103 x5_1 x6_1 x7_1 (!(rdOf false t103 (wrap64 (x7_1 - 1))))) else (none)) else (none))) else (sloperef3_Print.j1 k1 t103 x5_1 x6_1 x7_1 false)) = some (r1, r2) := by rw [← hbq18] at H; exact H
                have Nbq18 := Aside0.mk hbq18
                clear hbq18
                by_cases c19 : bq18 = true
                · subst c19
                  have H1 : (if x7_1 = 0 then (sloperef3_Print.j1 k1 t103 x5_1 x6_1 x7_1 true) else (if 0 ≤ (wrap64 (x7_1 - 1)) then (if (wrap64 (x7_1 - 1)) < (t103.length : Int) then (sloperef3_Print.j1 k1 t103 x5_1 x6_1 x7_1 (!(rdOf false t103 (wrap64 (x7_1 - 1))))) else (none)) else (none))) = some (r1, r2) := by rw [if_pos rfl] at H; exact H
                  clear H
                  have H := H1
                  clear H1
                  by_cases c20 : x7_1 = 0
                  · rw [if_pos c20] at H
                    have c20b0 : (x7_1 == 0) = true := beq_iff_eq.mpr c20
                    have c20b1 : (x7_1 != 0) = false := bne_eq_false_iff_eq.mpr c20
                    clear c20
                    have H' := Aside0.mk H
                    clear H
                    have p107 : 0 ≤ (x7_1 : Int) := of_decide_eq_true (by first | (with_reducible assumption) | assumption)
                    have q107 : x7_1 < (t103.length : Int) := of_decide_eq_true (by first | (with_reducible assumption) | assumption)
                    obtain ⟨ad107, e107, hx107_0⟩ := Kd.at_bool (Kd.R_reads' HO_4.out).2.2 x7_1 p107 q107
                    (try rw [← Nbq18.out] at hx107_0)
                    cases e107
                    replace p107 := eq_true p107
                    replace q107 := eq_true q107
                    go_wp2
                    go_meet
                    case rel => exact ⟨_, (true), (by first | rfl | (simp; done) | (simp [*]; done)), H', ⟨by have := HK1.out; first | omega | exact Nat.le_refl _⟩, ⟨by (with_reducible repeat (first | apply Kd.R_alloc | apply Kd.R_drewN | apply Kd.R_drew)); exact HO_4.out⟩, ⟨by (with_reducible repeat (first | refine blk_drewN ?_ _ | refine blk_drew ?_ | refine blk_alloc ?_ _)); exact BK101.out⟩, ⟨by repeat (first | (with_reducible first | exact HB.out | apply below_alloc | apply pw_below_drewN | apply below_drew1 | refine below_set ?_ GE101.out) | exact HB.out)⟩⟩
                  · rw [if_neg c20] at H
                    have c20b0 : (x7_1 == 0) = false := beq_eq_false_iff_ne.mpr c20
                    have c20b1 : (x7_1 != 0) = true := bne_iff_ne.mpr c20
                    obtain ⟨ji21, hji21⟩ : ∃ j_ : Int, (wrap64 (x7_1 - 1)) = j_ := ⟨_, rfl⟩
                    replace H : (if 0 ≤ (ji21) then (if (ji21) < (t103.length : Int) then (sloperef3_Print.j1 k1 t103 x5_1 x6_1 x7_1 (!(rdOf false t103 (ji21)))) else (none)) else (none)) = some (r1, r2) := by first | (rw [hji21] at H; exact H) | (simp only [hji21] at H ⊢; exact H)
                    have hji21w : (IntKind.i64.wrap (x7_1 - 1)) = ji21 := (i64_w _).trans hji21
                    by_cases c22 : 0 ≤ (ji21)
                    · rw [if_pos c22] at H
                      have c22b0 : decide (0 ≤ (ji21)) = true := decide_eq_true c22
                      clear c22
                      by_cases c23 : (ji21) < (t103.length : Int)
                      · rw [if_pos c23] at H
                        have c23b0 : decide ((ji21) < (t103.length : Int)) = true := decide_eq_true c23
                        clear c23
                        have H' := Aside0.mk H
                        clear H
                        have p107 : 0 ≤ (x7_1 : Int) := of_decide_eq_true (by first | (with_reducible assumption) | assumption)
                        have q107 : x7_1 < (t103.length : Int) := of_decide_eq_true (by first | (with_reducible assumption) | assumption)
                        obtain ⟨ad107, e107, hx107_0⟩ := Kd.at_bool (Kd.R_reads' HO_4.out).2.2 x7_1 p107 q107
                        (try rw [← Nbq18.out] at hx107_0)
                        cases e107
                        replace p107 := eq_true p107
                        replace q107 := eq_true q107
                        have p108 : 0 ≤ ((ji21) : Int) := of_decide_eq_true (by first | (with_reducible assumption) | assumption)
                        have q108 : (ji21) < (t103.length : Int) := of_decide_eq_true (by first | (with_reducible assumption) | assumption)
                        obtain ⟨ad108, e108, hx108_0⟩ := Kd.at_bool (Kd.R_reads' HO_4.out).2.2 (ji21) p108 q108
                        (try rw [← Nbq18.out] at hx108_0)
                        obtain rfl : ad107 = ad108 := (by injection e108)
                        replace p108 := eq_true p108
                        replace q108 := eq_true q108
                        go_wp2
                        go_meet
                        case rel => exact ⟨_, (!(rdOf false t103 (ji21))), (by first | rfl | (simp; done) | (simp only [← hji21] <;> (first | rfl | simp)) | (simp [*]; done)), H', ⟨by have := HK1.out; first | omega | exact Nat.le_refl _⟩, ⟨by (with_reducible repeat (first | apply Kd.R_alloc | apply Kd.R_drewN | apply Kd.R_drew)); exact HO_4.out⟩, ⟨by (with_reducible repeat (first | refine blk_drewN ?_ _ | refine blk_drew ?_ | refine blk_alloc ?_ _)); exact BK101.out⟩, ⟨by repeat (first | (with_reducible first | exact HB.out | apply below_alloc | apply pw_below_drewN | apply below_drew1 | refine below_set ?_ GE101.out) | exact HB.out)⟩⟩
                      · rw [if_neg c23] at H
                        exact absurd H (by simp)
                    · rw [if_neg c22] at H
                      exact absurd H (by simp)
                · replace c19 := Bool.eq_false_iff.mpr c19
                  subst c19
                  have H1 : (sloperef3_Print.j1 k1 t103 x5_1 x6_1 x7_1 false) = some (r1, r2) := by rw [if_neg (show ¬ (false = true) by decide)] at H; exact H
                  clear H
                  have H := H1
                  clear H1
                  have H' := Aside0.mk H
                  clear H
                  have p107 : 0 ≤ (x7_1 : Int) := of_decide_eq_true (by first | (with_reducible assumption) | assumption)
                  have q107 : x7_1 < (t103.length : Int) := of_decide_eq_true (by first | (with_reducible assumption) | assumption)
                  obtain ⟨ad107, e107, hx107_0⟩ := Kd.at_bool (Kd.R_reads' HO_4.out).2.2 x7_1 p107 q107
                  (try rw [← Nbq18.out] at hx107_0)
                  cases e107
                  replace p107 := eq_true p107
                  replace q107 := eq_true q107
                  go_wp2
                  go_meet
                  case rel => exact ⟨_, (false), (by first | rfl | (simp; done) | (simp [*]; done)), H', ⟨by have := HK1.out; first | omega | exact Nat.le_refl _⟩, ⟨by (with_reducible repeat (first | apply Kd.R_alloc | apply Kd.R_drewN | apply Kd.R_drew)); exact HO_4.out⟩, ⟨by (with_reducible repeat (first | refine blk_drewN ?_ _ | refine blk_drew ?_ | refine blk_alloc ?_ _)); exact BK101.out⟩, ⟨by repeat (first | (with_reducible first | exact HB.out | apply below_alloc | apply pw_below_drewN | apply below_drew1 | refine below_set ?_ GE101.out) | exact HB.out)⟩⟩
              · rw [if_neg c17] at H
                exact absurd H (by simp)
            case rest =>
              clear HC15
              try clear c1
              try clear p1
              try clear q1
              try clear hx1
              try clear c2
              try clear p2
              try clear c3
              try clear c6
              try clear c6b0
              try clear c6b1
              try clear c6b2
              try clear p6
              try clear c10
              try clear p10
              try clear q10
              try clear hx10
              try clear c14
              try clear c14b0
              try clear c17
              try clear c17b0
              try clear q18
              try clear c19
              try clear c20
              try clear c20b0
              try clear c20b1
              try clear c22
              try clear c22b0
              try clear c23
              try clear c23b0
              try clear hcz10_0
              try clear hcz10_1
              try clear hcz12_0
              try clear hcz12_1
              try clear hcz8_0
              try clear hcz8_1
              try clear hfz10_0
              try clear hfz10_1
              try clear hfz12_0
              try clear hfz12_1
              try clear hfz8_0
              try clear hfz8_1
              try clear hx107_0
              try clear hx108_0
              try clear p107
              try clear p108
              try clear p2
              try clear q107
              try clear q108
              obtain ⟨kq, x8_14, rfl, HA, HJ14, HO_4, BK101, HB⟩ := hcut
              cases kq with
              | zero => exact absurd HA.out (by simp [sloperef3_Print.j1])
              | succ kj14 =>
                have H := HA.out
                clear HA
                simp only [sloperef3_Print.j1] at H
                have HC24 := Aside0.mk H
                clear H
                go_upto_region 10 with (fail)
                go_cut [9] (fun v9 wc => ∃ (kq : Nat) (x9_23 : Bool), v9 = .bool x9_23 ∧ Aside0 (sloperef3_Print.j2 kq t103 x5_1 x6_1 x7_1 x8_14 x9_23 = some (r1, r2)) ∧ Aside0 (kq ≤ kj14) ∧ Aside0 (Kd.R Kd.bool 4 wc w.heap.size (fun _ => True) (.slice Ao16 t103.length co16) t103) ∧ Aside0 (wc.heap[gb101]? = some (.cells #[.int .i64 a0_0, (.slice A0_1 l0_1.length c0_1)] 24 (0, 0))) ∧ Aside0 (Below w.heap.size w wc))
                case first =>
                  have H := HC24.out
                  clear HC24
                  by_cases c25 : 0 ≤ x7_1
                  · rw [if_pos c25] at H
                    have c25b0 : decide (0 ≤ x7_1) = true := decide_eq_true c25
                    clear c25
                    (first | rw [c25b0] | (simp only [i64_w, i32_w]; rw [c25b0]) | skip)
                    by_cases c26 : x7_1 < (t103.length : Int)
                    · rw [if_pos c26] at H
                      have c26b0 : decide (x7_1 < (t103.length : Int)) = true := decide_eq_true c26
                      clear c26
                      obtain ⟨bq27, hbq27⟩ : ∃ b_ : Bool, b_ = (rdOf false t103 x7_1) := ⟨_, rfl⟩
                      replace H : (if bq27 = true then (if x7_1 = (wrap64 ((t103.length : Int) - 1)) then (sloperef3_Print.j2 kj14 t103 x5_1 x6_1 x7_1 x8_14 true) else (if 0 ≤ (wrap64 (x7_1 + 1)) then (if (wrap64 (x7_1 + 1)) < (t103.length : Int) then (sloperef3_Print.j2 kj14 t103 x5_1 x6_1 x7_1 x8_14 (!(rdOf false t103 (wrap64 (x7_1 + 1))))) else (none)) else (none))) else (sloperef3_Print.j2 kj14 t103 x5_1 x6_1 x7_1 x8_14 false)) = some (r1, r2) := by rw [← hbq27] at H; exact H
                      have Nbq27 := Aside0.mk hbq27
                      clear hbq27
                      by_cases c28 : bq27 = true
                      · subst c28
                        have H1 : (if x7_1 = (wrap64 ((t103.length : Int) - 1)) then (sloperef3_Print.j2 kj14 t103 x5_1 x6_1 x7_1 x8_14 true) else (if 0 ≤ (wrap64 (x7_1 + 1)) then (if (wrap64 (x7_1 + 1)) < (t103.length : Int) then (sloperef3_Print.j2 kj14 t103 x5_1 x6_1 x7_1 x8_14 (!(rdOf false t103 (wrap64 (x7_1 + 1))))) else (none)) else (none))) = some (r1, r2) := by rw [if_pos rfl] at H; exact H
                        clear H
                        have H := H1
                        clear H1
                        by_cases c29 : x7_1 = (wrap64 ((t103.length : Int) - 1))
                        · rw [if_pos c29] at H
                          have c29b0 : (x7_1 == (wrap64 ((t103.length : Int) - 1))) = true := beq_iff_eq.mpr c29
                          have c29b1 : (x7_1 != (wrap64 ((t103.length : Int) - 1))) = false := bne_eq_false_iff_eq.mpr c29
                          clear c29
                          have H' := Aside0.mk H
                          clear H
                          have p109 : 0 ≤ (x7_1 : Int) := of_decide_eq_true (by first | (with_reducible assumption) | assumption)
                          have q109 : x7_1 < (t103.length : Int) := of_decide_eq_true (by first | (with_reducible assumption) | assumption)
                          obtain ⟨ad109, e109, hx109_0⟩ := Kd.at_bool (Kd.R_reads' HO_4.out).2.2 x7_1 p109 q109
                          (try rw [← Nbq27.out] at hx109_0)
                          cases e109
                          replace p109 := eq_true p109
                          replace q109 := eq_true q109
                          go_wp2
                          go_meet
                          case rel => exact ⟨_, (true), (by first | rfl | (simp; done) | (simp [*]; done)), H', ⟨by have := HK1.out; have := HJ14.out; first | omega | exact Nat.le_refl _⟩, ⟨by (with_reducible repeat (first | apply Kd.R_alloc | apply Kd.R_drewN | apply Kd.R_drew)); exact HO_4.out⟩, ⟨by (with_reducible repeat (first | refine blk_drewN ?_ _ | refine blk_drew ?_ | refine blk_alloc ?_ _)); exact BK101.out⟩, ⟨by repeat (first | (with_reducible first | exact HB.out | apply below_alloc | apply pw_below_drewN | apply below_drew1 | refine below_set ?_ GE101.out) | exact HB.out)⟩⟩
                        · rw [if_neg c29] at H
                          have c29b0 : (x7_1 == (wrap64 ((t103.length : Int) - 1))) = false := beq_eq_false_iff_ne.mpr c29
                          have c29b1 : (x7_1 != (wrap64 ((t103.length : Int) - 1))) = true := bne_iff_ne.mpr c29
                          obtain ⟨ji30, hji30⟩ : ∃ j_ : Int, (wrap64 (x7_1 + 1)) = j_ := ⟨_, rfl⟩
                          replace H : (if 0 ≤ (ji30) then (if (ji30) < (t103.length : Int) then (sloperef3_Print.j2 kj14 t103 x5_1 x6_1 x7_1 x8_14 (!(rdOf false t103 (ji30)))) else (none)) else (none)) = some (r1, r2) := by first | (rw [hji30] at H; exact H) | (simp only [hji30] at H ⊢; exact H)
                          have hji30w : (IntKind.i64.wrap (x7_1 + 1)) = ji30 := (i64_w _).trans hji30
                          by_cases c31 : 0 ≤ (ji30)
                          · rw [if_pos c31] at H
                            have c31b0 : decide (0 ≤ (ji30)) = true := decide_eq_true c31
                            clear c31
                            by_cases c32 : (ji30) < (t103.length : Int)
                            · rw [if_pos c32] at H
                              have c32b0 : decide ((ji30) < (t103.length : Int)) = true := decide_eq_true c32
                              clear c32
                              have H' := Aside0.mk H
                              clear H
                              have p109 : 0 ≤ (x7_1 : Int) := of_decide_eq_true (by first | (with_reducible assumption) | assumption)
                              have q109 : x7_1 < (t103.length : Int) := of_decide_eq_true (by first | (with_reducible assumption) | assumption)
                              obtain ⟨ad109, e109, hx109_0⟩ := Kd.at_bool (Kd.R_reads' HO_4.out).2.2 x7_1 p109 q109
                              (try rw [← Nbq27.out] at hx109_0)
                              cases e109
                              replace p109 := eq_true p109
                              replace q109 := eq_true q109
                              have p110 : 0 ≤ ((ji30) : Int) := of_decide_eq_true (by first | (with_reducible assumption) | assumption)
                              have q110 : (ji30) < (t103.length : Int) := of_decide_eq_true (by first | (with_reducible assumption) | assumption)
                              obtain ⟨ad110, e110, hx110_0⟩ := Kd.at_bool (Kd.R_reads' HO_4.out).2.2 (ji30) p110 q110
                              (try rw [← Nbq27.out] at hx110_0)
                              obtain rfl : ad109 = ad110 := (by injection e110)
                              replace p110 := eq_true p110
                              replace q110 := eq_true q110
                              go_wp2
                              go_meet
                              case rel => exact ⟨_, (!(rdOf false t103 (ji30))), (by first | rfl | (simp; done) | (simp only [← hji30] <;> (first | rfl | simp)) | (simp [*]; done)), H', ⟨by have := HK1.out; have := HJ14.out; first | omega | exact Nat.le_refl _⟩, ⟨by (with_reducible repeat (first | apply Kd.R_alloc | apply Kd.R_drewN | apply Kd.R_drew)); exact HO_4.out⟩, ⟨by (with_reducible repeat (first | refine blk_drewN ?_ _ | refine blk_drew ?_ | refine blk_alloc ?_ _)); exact BK101.out⟩, ⟨by repeat (first | (with_reducible first | exact HB.out | apply below_alloc | apply pw_below_drewN | apply below_drew1 | refine below_set ?_ GE101.out) | exact HB.out)⟩⟩
                            · rw [if_neg c32] at H
                              exact absurd H (by simp)
                          · rw [if_neg c31] at H
                            exact absurd H (by simp)
                      · replace c28 := Bool.eq_false_iff.mpr c28
                        subst c28
                        have H1 : (sloperef3_Print.j2 kj14 t103 x5_1 x6_1 x7_1 x8_14 false) = some (r1, r2) := by rw [if_neg (show ¬ (false = true) by decide)] at H; exact H
                        clear H
                        have H := H1
                        clear H1
                        have H' := Aside0.mk H
                        clear H
                        have p109 : 0 ≤ (x7_1 : Int) := of_decide_eq_true (by first | (with_reducible assumption) | assumption)
                        have q109 : x7_1 < (t103.length : Int) := of_decide_eq_true (by first | (with_reducible assumption) | assumption)
                        obtain ⟨ad109, e109, hx109_0⟩ := Kd.at_bool (Kd.R_reads' HO_4.out).2.2 x7_1 p109 q109
                        (try rw [← Nbq27.out] at hx109_0)
                        cases e109
                        replace p109 := eq_true p109
                        replace q109 := eq_true q109
                        go_wp2
                        go_meet
                        case rel => exact ⟨_, (false), (by first | rfl | (simp; done) | (simp [*]; done)), H', ⟨by have := HK1.out; have := HJ14.out; first | omega | exact Nat.le_refl _⟩, ⟨by (with_reducible repeat (first | apply Kd.R_alloc | apply Kd.R_drewN | apply Kd.R_drew)); exact HO_4.out⟩, ⟨by (with_reducible repeat (first | refine blk_drewN ?_ _ | refine blk_drew ?_ | refine blk_alloc ?_ _)); exact BK101.out⟩, ⟨by repeat (first | (with_reducible first | exact HB.out | apply below_alloc | apply pw_below_drewN | apply below_drew1 | refine below_set ?_ GE101.out) | exact HB.out)⟩⟩
                    · rw [if_neg c26] at H
                      exact absurd H (by simp)
                  · rw [if_neg c25] at H
                    exact absurd H (by simp)
                case rest =>
                  clear HC24
                  try clear c1
                  try clear p1
                  try clear q1
                  try clear hx1
                  try clear c2
                  try clear p2
                  try clear q2
                  try clear c3
                  try clear c6
                  try clear c6b0
                  try clear c6b1
                  try clear c6b2
                  try clear p6
                  try clear c10
                  try clear p10
                  try clear q10
                  try clear hx10
                  try clear p11
                  try clear q11
                  try clear hx11
                  try clear c14
                  try clear c14b0
                  try clear c17
                  try clear c17b0
                  try clear q18
                  try clear c19
                  try clear c20
                  try clear c20b0
                  try clear c20b1
                  try clear c22
                  try clear c22b0
                  try clear c23
                  try clear c23b0
                  try clear c25
                  try clear c25b0
                  try clear c26
                  try clear c26b0
                  try clear q27
                  try clear c28
                  try clear c29
                  try clear c29b0
                  try clear c29b1
                  try clear c31
                  try clear c31b0
                  try clear c32
                  try clear c32b0
                  try clear hcz10_0
                  try clear hcz10_1
                  try clear hcz12_0
                  try clear hcz12_1
                  try clear hcz8_0
                  try clear hcz8_1
                  try clear hfz10_0
                  try clear hfz10_1
                  try clear hfz12_0
                  try clear hfz12_1
                  try clear hfz8_0
                  try clear hfz8_1
                  try clear hx107_0
                  try clear hx108_0
                  try clear hx109_0
                  try clear hx110_0
                  try clear p1
                  try clear p10
                  try clear p107
                  try clear p108
                  try clear p109
                  try clear p110
                  try clear p2
                  try clear p6
                  try clear q1
                  try clear q10
                  try clear q107
                  try clear q108
                  try clear q109
                  try clear q110
                  try clear q18
                  obtain ⟨kq, x9_23, rfl, HA, HJ23, HO_4, BK101, HB⟩ := hcut
                  cases kq with
                  | zero => exact absurd HA.out (by simp [sloperef3_Print.j2])
                  | succ kj23 =>
                    have H := HA.out
                    clear HA
                    simp only [sloperef3_Print.j2] at H
                    by_cases c33 : x8_14 = true
                    · subst c33
                      have H1 : (if x5_1.size + x6_1.size ≤ 9223372036854775807 then ((sloperef3_Decimal.f kj23 x7_1).bind fun t111 => (if (x5_1 ++ x6_1).size + t111.size ≤ 9223372036854775807 then (if x9_23 = true then (sloperef3_Print.l0 kj23 t103 ((x5_1 ++ x6_1) ++ t111) (⟨#[44]⟩ : ByteArray) (wrap64 (x7_1 + 1))) else (sloperef3_Print.l0 kj23 t103 ((x5_1 ++ x6_1) ++ t111) (⟨#[44]⟩ : ByteArray) (wrap64 (x7_1 + 1)))) else (none))) else (none)) = some (r1, r2) := by rw [if_pos rfl] at H; exact H
                      clear H
                      have H := H1
                      clear H1
                      by_cases c34 : x5_1.size + x6_1.size ≤ 9223372036854775807
                      · rw [if_pos c34] at H
                        have c34b0 := eq_true c34
                        have c34b1 : decide (x5_1.size + x6_1.size ≤ 9223372036854775807) = true := decide_eq_true c34
                        try have c34b2 : (9223372036854775807 < x5_1.size + x6_1.size) = False := eq_false (Nat.not_lt.2 c34)
                        replace H := Option.bind_eq_some_iff.mp H
                        obtain ⟨t111, A350, H⟩ := H
                        replace H : (if (x5_1 ++ x6_1).size + t111.size ≤ 9223372036854775807 then (if x9_23 = true then (sloperef3_Print.l0 kj23 t103 ((x5_1 ++ x6_1) ++ t111) (⟨#[44]⟩ : ByteArray) (wrap64 (x7_1 + 1))) else (sloperef3_Print.l0 kj23 t103 ((x5_1 ++ x6_1) ++ t111) (⟨#[44]⟩ : ByteArray) (wrap64 (x7_1 + 1)))) else (none)) = some (r1, r2) := H
                        have A35 := Aside0.mk A350
                        clear A350
                        by_cases c36 : (x5_1 ++ x6_1).size + t111.size ≤ 9223372036854775807
                        · rw [if_pos c36] at H
                          have c36b0 := eq_true c36
                          have c36b1 : decide ((x5_1 ++ x6_1).size + t111.size ≤ 9223372036854775807) = true := decide_eq_true c36
                          try have c36b2 : (9223372036854775807 < (x5_1 ++ x6_1).size + t111.size) = False := eq_false (Nat.not_lt.2 c36)
                          have c36n : x5_1.size + x6_1.size + t111.size ≤ 9223372036854775807 := by have h_ := c36; rw [ByteArray.size_append] at h_; exact h_
                          have c36m := eq_false (Nat.not_lt.2 c36n)
                          by_cases c37 : x9_23 = true
                          · subst c37
                            have H1 : (sloperef3_Print.l0 kj23 t103 ((x5_1 ++ x6_1) ++ t111) (⟨#[44]⟩ : ByteArray) (wrap64 (x7_1 + 1))) = some (r1, r2) := by rw [if_pos rfl] at H; exact H
                            clear H
                            have H := H1
                            clear H1
                            have H' := Aside0.mk H
                            clear H
                            go_wp2_with (first | ((with_reducible refine gate_callee (f := 105) rfl ?_); refine goesL_ (some 65) rfl rfl Tryd.func105 (by kernel_rfl) rfl #[.int .i64 x7_1] rfl (by (try simp only [List.map_toArray, List.map_cons, List.map_nil]); first | done | rfl | (simp only [List.length_drop, List.length_take]; rfl)) ?_; (with_reducible refine (sloperef3_Decimal.calls kj23 x7_1 t111 _ A35.out).mono ?_); rintro e w38 ⟨rfl, hb⟩; refine ⟨_, rfl, ?_⟩; have n0_ := Aside0.mk (Kd.R_below (by (with_reducible repeat (first | apply Kd.R_alloc | apply Kd.R_drewN | apply Kd.R_drew)); exact HO_4.out) hb); have n1_ := Aside0.mk (blk_below (g := gb101) (o := .cells #[.int .i64 a0_0, .slice A0_1 l0_1.length c0_1] 24 (0, 0)) (by (with_reducible repeat (first | refine blk_drewN ?_ _ | refine blk_drew ?_ | refine blk_alloc ?_ _)); exact BK101.out) hb); have n2_ := Aside0.mk (below_step (by repeat (first | (with_reducible first | exact HB.out | apply below_alloc | apply pw_below_drewN | apply below_drew1 | refine below_set ?_ GE101.out) | exact HB.out)) hb); clear HO_4; clear BK101; clear HB; have HO_4 := n0_; have BK101 := n1_; have HB := n2_; clear n0_ n1_ n2_; (try clear hb); (try clear hb2); (try clear hk); (try clear hi)))
                            go_roundg kj23
                            case measure => have := HK1.out; have := HJ14.out; have := HJ23.out; omega
                            case rel => exact ⟨((x5_1 ++ x6_1) ++ t111), ((⟨#[44]⟩ : ByteArray)), (wrap64 (x7_1 + 1)), (by first | rfl | (simp; done) | (simp [*]; done)), (by first | rfl | (simp; done) | (simp [*]; done)), (by first | rfl | (simp; done) | (simp [*]; done)), H', ⟨by have := HK1.out; have := HJ14.out; have := HJ23.out; omega⟩, ⟨by (with_reducible repeat (first | apply Kd.R_alloc | apply Kd.R_drewN | apply Kd.R_drew)); exact HO_4.out⟩, ⟨by (with_reducible repeat (first | refine blk_drewN ?_ _ | refine blk_drew ?_ | refine blk_alloc ?_ _)); exact BK101.out⟩, ⟨by repeat (first | (with_reducible first | exact HB.out | apply below_alloc | apply pw_below_drewN | apply below_drew1 | refine below_set ?_ GE101.out) | exact HB.out)⟩⟩
                          · replace c37 := Bool.eq_false_iff.mpr c37
                            subst c37
                            have H1 : (sloperef3_Print.l0 kj23 t103 ((x5_1 ++ x6_1) ++ t111) (⟨#[44]⟩ : ByteArray) (wrap64 (x7_1 + 1))) = some (r1, r2) := by rw [if_neg (show ¬ (false = true) by decide)] at H; exact H
                            clear H
                            have H := H1
                            clear H1
                            have H' := Aside0.mk H
                            clear H
                            go_wp2_with (first | ((with_reducible refine gate_callee (f := 105) rfl ?_); refine goesL_ (some 65) rfl rfl Tryd.func105 (by kernel_rfl) rfl #[.int .i64 x7_1] rfl (by (try simp only [List.map_toArray, List.map_cons, List.map_nil]); first | done | rfl | (simp only [List.length_drop, List.length_take]; rfl)) ?_; (with_reducible refine (sloperef3_Decimal.calls kj23 x7_1 t111 _ A35.out).mono ?_); rintro e w39 ⟨rfl, hb⟩; refine ⟨_, rfl, ?_⟩; have n0_ := Aside0.mk (Kd.R_below (by (with_reducible repeat (first | apply Kd.R_alloc | apply Kd.R_drewN | apply Kd.R_drew)); exact HO_4.out) hb); have n1_ := Aside0.mk (blk_below (g := gb101) (o := .cells #[.int .i64 a0_0, .slice A0_1 l0_1.length c0_1] 24 (0, 0)) (by (with_reducible repeat (first | refine blk_drewN ?_ _ | refine blk_drew ?_ | refine blk_alloc ?_ _)); exact BK101.out) hb); have n2_ := Aside0.mk (below_step (by repeat (first | (with_reducible first | exact HB.out | apply below_alloc | apply pw_below_drewN | apply below_drew1 | refine below_set ?_ GE101.out) | exact HB.out)) hb); clear HO_4; clear BK101; clear HB; have HO_4 := n0_; have BK101 := n1_; have HB := n2_; clear n0_ n1_ n2_; (try clear hb); (try clear hb2); (try clear hk); (try clear hi)))
                            go_roundg kj23
                            case measure => have := HK1.out; have := HJ14.out; have := HJ23.out; omega
                            case rel => exact ⟨((x5_1 ++ x6_1) ++ t111), ((⟨#[44]⟩ : ByteArray)), (wrap64 (x7_1 + 1)), (by first | rfl | (simp; done) | (simp [*]; done)), (by first | rfl | (simp; done) | (simp [*]; done)), (by first | rfl | (simp; done) | (simp [*]; done)), H', ⟨by have := HK1.out; have := HJ14.out; have := HJ23.out; omega⟩, ⟨by (with_reducible repeat (first | apply Kd.R_alloc | apply Kd.R_drewN | apply Kd.R_drew)); exact HO_4.out⟩, ⟨by (with_reducible repeat (first | refine blk_drewN ?_ _ | refine blk_drew ?_ | refine blk_alloc ?_ _)); exact BK101.out⟩, ⟨by repeat (first | (with_reducible first | exact HB.out | apply below_alloc | apply pw_below_drewN | apply below_drew1 | refine below_set ?_ GE101.out) | exact HB.out)⟩⟩
                        · rw [if_neg c36] at H
                          exact absurd H (by simp)
                      · rw [if_neg c34] at H
                        exact absurd H (by simp)
                    · replace c33 := Bool.eq_false_iff.mpr c33
                      subst c33
                      have H1 : (if x9_23 = true then (if x5_1.size + 1 ≤ 9223372036854775807 then ((sloperef3_Decimal.f kj23 x7_1).bind fun t112 => (if (x5_1 ++ (⟨#[45]⟩ : ByteArray)).size + t112.size ≤ 9223372036854775807 then (sloperef3_Print.l0 kj23 t103 ((x5_1 ++ (⟨#[45]⟩ : ByteArray)) ++ t112) x6_1 (wrap64 (x7_1 + 1))) else (none))) else (none)) else (sloperef3_Print.l0 kj23 t103 x5_1 x6_1 (wrap64 (x7_1 + 1)))) = some (r1, r2) := by rw [if_neg (show ¬ (false = true) by decide)] at H; exact H
                      clear H
                      have H := H1
                      clear H1
                      by_cases c40 : x9_23 = true
                      · subst c40
                        have H1 : (if x5_1.size + 1 ≤ 9223372036854775807 then ((sloperef3_Decimal.f kj23 x7_1).bind fun t112 => (if (x5_1 ++ (⟨#[45]⟩ : ByteArray)).size + t112.size ≤ 9223372036854775807 then (sloperef3_Print.l0 kj23 t103 ((x5_1 ++ (⟨#[45]⟩ : ByteArray)) ++ t112) x6_1 (wrap64 (x7_1 + 1))) else (none))) else (none)) = some (r1, r2) := by rw [if_pos rfl] at H; exact H
                        clear H
                        have H := H1
                        clear H1
                        by_cases c41 : x5_1.size + 1 ≤ 9223372036854775807
                        · rw [if_pos c41] at H
                          have c41b0 := eq_true c41
                          have c41b1 : decide (x5_1.size + 1 ≤ 9223372036854775807) = true := decide_eq_true c41
                          try have c41b2 : (9223372036854775807 < x5_1.size + 1) = False := eq_false (Nat.not_lt.2 c41)
                          replace H := Option.bind_eq_some_iff.mp H
                          obtain ⟨t112, A420, H⟩ := H
                          replace H : (if (x5_1 ++ (⟨#[45]⟩ : ByteArray)).size + t112.size ≤ 9223372036854775807 then (sloperef3_Print.l0 kj23 t103 ((x5_1 ++ (⟨#[45]⟩ : ByteArray)) ++ t112) x6_1 (wrap64 (x7_1 + 1))) else (none)) = some (r1, r2) := H
                          have A42 := Aside0.mk A420
                          clear A420
                          by_cases c43 : (x5_1 ++ (⟨#[45]⟩ : ByteArray)).size + t112.size ≤ 9223372036854775807
                          · rw [if_pos c43] at H
                            have c43b0 := eq_true c43
                            have c43b1 : decide ((x5_1 ++ (⟨#[45]⟩ : ByteArray)).size + t112.size ≤ 9223372036854775807) = true := decide_eq_true c43
                            try have c43b2 : (9223372036854775807 < (x5_1 ++ (⟨#[45]⟩ : ByteArray)).size + t112.size) = False := eq_false (Nat.not_lt.2 c43)
                            have c43n : x5_1.size + 1 + t112.size ≤ 9223372036854775807 := by have h_ := c43; rw [ByteArray.size_append] at h_; exact h_
                            have c43m := eq_false (Nat.not_lt.2 c43n)
                            have H' := Aside0.mk H
                            clear H
                            go_wp2_with (first | ((with_reducible refine gate_callee (f := 105) rfl ?_); refine goesL_ (some 75) rfl rfl Tryd.func105 (by kernel_rfl) rfl #[.int .i64 x7_1] rfl (by (try simp only [List.map_toArray, List.map_cons, List.map_nil]); first | done | rfl | (simp only [List.length_drop, List.length_take]; rfl)) ?_; (with_reducible refine (sloperef3_Decimal.calls kj23 x7_1 t112 _ A42.out).mono ?_); rintro e w44 ⟨rfl, hb⟩; refine ⟨_, rfl, ?_⟩; have n0_ := Aside0.mk (Kd.R_below (by (with_reducible repeat (first | apply Kd.R_alloc | apply Kd.R_drewN | apply Kd.R_drew)); exact HO_4.out) hb); have n1_ := Aside0.mk (blk_below (g := gb101) (o := .cells #[.int .i64 a0_0, .slice A0_1 l0_1.length c0_1] 24 (0, 0)) (by (with_reducible repeat (first | refine blk_drewN ?_ _ | refine blk_drew ?_ | refine blk_alloc ?_ _)); exact BK101.out) hb); have n2_ := Aside0.mk (below_step (by repeat (first | (with_reducible first | exact HB.out | apply below_alloc | apply pw_below_drewN | apply below_drew1 | refine below_set ?_ GE101.out) | exact HB.out)) hb); clear HO_4; clear BK101; clear HB; have HO_4 := n0_; have BK101 := n1_; have HB := n2_; clear n0_ n1_ n2_; (try clear hb); (try clear hb2); (try clear hk); (try clear hi)))
                            go_roundg kj23
                            case measure => have := HK1.out; have := HJ14.out; have := HJ23.out; omega
                            case rel => exact ⟨((x5_1 ++ (⟨#[45]⟩ : ByteArray)) ++ t112), (x6_1), (wrap64 (x7_1 + 1)), (by first | rfl | (simp; done) | (simp [*]; done)), (by first | rfl | (simp; done) | (simp [*]; done)), (by first | rfl | (simp; done) | (simp [*]; done)), H', ⟨by have := HK1.out; have := HJ14.out; have := HJ23.out; omega⟩, ⟨by (with_reducible repeat (first | apply Kd.R_alloc | apply Kd.R_drewN | apply Kd.R_drew)); exact HO_4.out⟩, ⟨by (with_reducible repeat (first | refine blk_drewN ?_ _ | refine blk_drew ?_ | refine blk_alloc ?_ _)); exact BK101.out⟩, ⟨by repeat (first | (with_reducible first | exact HB.out | apply below_alloc | apply pw_below_drewN | apply below_drew1 | refine below_set ?_ GE101.out) | exact HB.out)⟩⟩
                          · rw [if_neg c43] at H
                            exact absurd H (by simp)
                        · rw [if_neg c41] at H
                          exact absurd H (by simp)
                      · replace c40 := Bool.eq_false_iff.mpr c40
                        subst c40
                        have H1 : (sloperef3_Print.l0 kj23 t103 x5_1 x6_1 (wrap64 (x7_1 + 1))) = some (r1, r2) := by rw [if_neg (show ¬ (false = true) by decide)] at H; exact H
                        clear H
                        have H := H1
                        clear H1
                        have H' := Aside0.mk H
                        clear H
                        go_wp2
                        go_roundg kj23
                        case measure => have := HK1.out; have := HJ14.out; have := HJ23.out; omega
                        case rel => exact ⟨(x5_1), (x6_1), (wrap64 (x7_1 + 1)), (by first | rfl | (simp; done) | (simp [*]; done)), (by first | rfl | (simp; done) | (simp [*]; done)), (by first | rfl | (simp; done) | (simp [*]; done)), H', ⟨by have := HK1.out; have := HJ14.out; have := HJ23.out; omega⟩, ⟨by (with_reducible repeat (first | apply Kd.R_alloc | apply Kd.R_drewN | apply Kd.R_drew)); exact HO_4.out⟩, ⟨by (with_reducible repeat (first | refine blk_drewN ?_ _ | refine blk_drew ?_ | refine blk_alloc ?_ _)); exact BK101.out⟩, ⟨by repeat (first | (with_reducible first | exact HB.out | apply below_alloc | apply pw_below_drewN | apply below_drew1 | refine below_set ?_ GE101.out) | exact HB.out)⟩⟩
          · rw [if_neg c14] at H
            have c14b0 : decide (x7_1 < (t103.length : Int)) = false := decide_eq_false c14
            clear c14
            simp only [Option.some.injEq, Prod.mk.injEq] at H
            obtain ⟨rfl, rfl⟩ := H
            obtain ⟨Ao45, co45, eo45⟩ := Kd.R_slice HO_4.out
            subst eo45
            go_wp2
            go_ret2
            exact ⟨by first | rfl | (simp [errW_none, errW_some] <;> rfl) | (simp [*, errW_none, errW_some] <;> rfl), by repeat (first | (with_reducible first | exact HB.out | apply below_alloc | apply pw_below_drewN | apply below_drew1 | refine below_set ?_ GE101.out) | exact HB.out)⟩
    · rw [if_neg c6] at H
      exact absurd H (by simp)
  · replace c3 := Bool.eq_false_iff.mpr c3
    subst c3
    have H1 : (some ((⟨#[]⟩ : ByteArray), 61)) = some (r1, r2) := by rw [if_neg (show ¬ (false = true) by decide)] at H; exact H
    clear H
    have H := H1
    clear H1
    simp only [Option.some.injEq, Prod.mk.injEq] at H
    obtain ⟨rfl, rfl⟩ := H
    go_enter Tryd.func62, Tryd.ntmps62
    go_wp2_with (first | ((with_reducible refine gate_dst (N := 1) rfl ?_); (try (refine gate_guard (by rfl) ?_; dsimp only)); refine box_event ?hg (N := 1) ?hd (cs := #[.int .i64 a0_0, .slice A0_1 l0_1.length c0_1]) (t := 24) ?hr ?_; (case hd => rfl); (case hg => rfl); (case hr => first | (go_simp; done) | (go_simp; rfl)); intro gb101 hg w46 hbox hb; have n0_ := Aside0.mk (below_step (by repeat (first | (with_reducible first | exact HB.out | apply below_alloc | apply pw_below_drewN | apply below_drew1) | exact HB.out)) hb); have n1_ := Aside0.mk (hbox); have n2_ := Aside0.mk ((by rw [hg]; exact (below_size (by repeat (first | (with_reducible first | exact HB.out | apply below_alloc | apply pw_below_drewN | apply below_drew1) | exact HB.out))) : w.heap.size ≤ gb101)); have n3_ := Aside0.mk ((by rw [hg]; exact (below_size (by repeat (first | (with_reducible first | exact HB.out | apply below_alloc | apply pw_below_drewN | apply below_drew1) | exact HB.out))) : w.heap.size ≤ gb101)); clear HB; have HB := n0_; have BK101 := n1_; have GW101 := n2_; have GE101 := n3_; clear n0_ n1_ n2_ n3_; clear hb hbox hg; have hcz47_0 : w46.cell? ⟨gb101, 0, none⟩ = some (.int .i64 a0_0) := (blk_cell BK101.out 0).trans rfl; have hcz47_1 : w46.cell? ⟨gb101, 1, none⟩ = some (.slice A0_1 l0_1.length c0_1) := (blk_cell BK101.out 1).trans rfl; have hfz47_0 := blk_frozen BK101.out 0; have hfz47_1 := blk_frozen BK101.out 1) | ((with_reducible refine gate_callee (f := 63) rfl ?_); refine goesL_ (some 11) rfl rfl Tryd.func63 (by kernel_rfl) rfl #[.agg #[.int .i64 a0_0, .slice A0_1 l0_1.length c0_1]] rfl (by (try simp only [List.map_toArray, List.map_cons, List.map_nil]); first | done | rfl | (simp only [List.length_drop, List.length_take]; rfl)) ?_; (with_reducible refine (sloperef3_May.calls k a0_0 _ _ l0_1 false _ ?side1 ?side2 A2.out).mono ?_); (case side1 => repeat (first | exact (Kd.C_below HR0_1.out HB.out) | (with_reducible refine Kd.C_alloc ?_ _) | (with_reducible refine Kd.C_drewN ?_ _) | (with_reducible refine Kd.C_drew ?_))); (case side2 => exact HC0_1.out); rintro e w48 ⟨rfl, hb⟩; refine ⟨_, rfl, ?_⟩; have n0_ := Aside0.mk (blk_below (g := gb101) (o := .cells #[.int .i64 a0_0, .slice A0_1 l0_1.length c0_1] 24 (0, 0)) (by (with_reducible repeat (first | refine blk_drewN ?_ _ | refine blk_drew ?_ | refine blk_alloc ?_ _)); exact BK101.out) hb); have n1_ := Aside0.mk (below_step (by repeat (first | (with_reducible first | exact HB.out | apply below_alloc | apply pw_below_drewN | apply below_drew1 | refine below_set ?_ GE101.out) | exact HB.out)) hb); clear BK101; clear HB; have BK101 := n0_; have HB := n1_; clear n0_ n1_; (try clear hb); (try clear hb2); (try clear hk); (try clear hi)))
    go_ret2
    exact ⟨by first | rfl | (simp [errW_none, errW_some] <;> rfl) | (simp [*, errW_none, errW_some] <;> rfl), by repeat (first | (with_reducible first | exact HB.out | apply below_alloc | apply pw_below_drewN | apply below_drew1 | refine below_set ?_ GE101.out) | exact HB.out)⟩
end Go.Proofs.YtjmkhdhffmlhiaaDoor.PAll
end
section
namespace Go.Proofs.YtjmkhdhffmlhiaaDoor.PAll
set_option linter.unusedVariables false
set_option linter.unusedSimpArgs false
open Go.RowKit Go.Proofs.YtjmkhdhffmlhiaaDoorW.PrintWords Go.Proofs.YtjmkhdhffmlhiaaDoorW.PrintMore
def dd (e : Nat) : List UInt8 := Lib.decDigits e
def pbeg (p : Nat → Bool) (e : Nat) : Bool := p e && (e == 0 || !p (e - 1))
def pend (p : Nat → Bool) (n e : Nat) : Bool := p e && (e + 1 == n || !p (e + 1))
def refT (p : Nat → Bool) (n : Nat) : Nat → Nat → Bool → List UInt8
  | 0, _, _ => []
  | d + 1, e, c => (if pbeg p e = true then (if c = true then [44] else []) ++ dd e else if pend p n e = true then 45 :: dd e else []) ++ refT p n d (e + 1) (c || pbeg p e)
def txtOf (p : Nat → Bool) (n : Nat) : List UInt8 := dd n ++ 58 :: refT p n n 0 false
theorem dd_small {u : Nat} (h : u < 10) : dd u = [UInt8.ofNat (48 + u)] := by unfold dd; rw [Lib.decDigits, dif_pos h]
theorem dd_big {u : Nat} (h : ¬ u < 10) : dd u = dd (u / 10) ++ [UInt8.ofNat (48 + u % 10)] := by unfold dd; rw [Lib.decDigits, dif_neg h]
theorem dd_len : ∀ (k u : Nat), u < 10 ^ (k + 1) → (dd u).length ≤ k + 1
  | 0, u, h => by rw [dd_small (by omega)]; simp
  | k + 1, u, h => by
    by_cases h1 : u < 10
    · rw [dd_small h1]; simp
    · rw [dd_big h1, List.length_append]
      have := dd_len k (u / 10) (by rw [Nat.pow_succ] at h; omega)
      simp
      omega
theorem dd_le {u : Nat} (h : u ≤ 4096) : (dd u).length ≤ 4 := dd_len 3 u (by omega)
theorem refT_len (p : Nat → Bool) (n : Nat) : ∀ d e c, e + d ≤ 4096 → (refT p n d e c).length ≤ 6 * d
  | 0, _, _, _ => by simp [refT]
  | d + 1, e, c, h => by
    have h1 := refT_len p n d (e + 1) (c || pbeg p e) (by omega)
    have h2 := dd_le (u := e) (by omega)
    rw [refT, List.length_append]
    by_cases hb1 : pbeg p e = true
    · rw [if_pos hb1, List.length_append]
      have : (if c = true then [(44 : UInt8)] else []).length ≤ 1 := by split <;> simp
      omega
    · rw [if_neg hb1]
      have : (if pend p n e = true then 45 :: dd e else []).length ≤ 5 := by split <;> simp; omega
      omega
theorem refT_skip (p : Nat → Bool) (n : Nat) (c : Bool) {f : Nat} (hf : f ≤ n) : ∀ (d pos : Nat), pos + d = f → (∀ e, pos ≤ e → e < f → p e = false) → refT p n (n - pos) pos c = refT p n (n - f) f c
  | 0, pos, h, _ => by obtain rfl : pos = f := by omega
                       rfl
  | d + 1, pos, h, hp => by
    have hpos := hp pos (Nat.le_refl _) (by omega)
    rw [show n - pos = (n - (pos + 1)) + 1 by omega, refT]
    have h1 : pbeg p pos = false := by simp [pbeg, hpos]
    have h2 : pend p n pos = false := by simp [pend, hpos]
    rw [h1, h2, if_neg (by decide), if_neg (by decide), List.nil_append, Bool.or_false]
    exact refT_skip p n c hf d (pos + 1) (by omega) (fun e he1 he2 => hp e (by omega) he2)
theorem refT_in (p : Nat → Bool) (n : Nat) {f t : Nat} (ht : t < n) (hp : ∀ e, f ≤ e → e ≤ t → p e = true) (hend : t + 1 = n ∨ p (t + 1) = false) : ∀ (d e : Nat), e + d = t → f < e → refT p n (n - e) e true = 45 :: dd t ++ refT p n (n - (t + 1)) (t + 1) true
  | 0, e, h, hfe => by
    obtain rfl : e = t := by omega
    rw [show n - e = (n - (e + 1)) + 1 by omega, refT]
    have h1 : pbeg p e = false := by simp [pbeg, hp (e - 1) (by omega) (by omega)]; omega
    have h2 : pend p n e = true := by
      unfold pend
      rw [hp e (by omega) (Nat.le_refl _), Bool.true_and]
      rcases hend with h | h
      · simp [h]
      · simp [h]
    rw [h1, h2, if_neg (by decide), if_pos rfl, Bool.or_false]
  | d + 1, e, h, hfe => by
    rw [show n - e = (n - (e + 1)) + 1 by omega, refT]
    have h1 : pbeg p e = false := by simp [pbeg, hp (e - 1) (by omega) (by omega)]; omega
    have h2 : pend p n e = false := by
      have : e + 1 ≠ n := by omega
      simp [pend, hp (e + 1) (by omega) (by omega), this]
    rw [h1, h2, if_neg (by decide), if_neg (by decide), List.nil_append, Bool.or_false]
    exact refT_in p n ht hp hend d (e + 1) (by omega) (by omega)
theorem refT_run (p : Nat → Bool) (n : Nat) (c : Bool) {f t : Nat} (hft : f ≤ t) (ht : t < n) (hp : ∀ e, f ≤ e → e ≤ t → p e = true) (hend : t + 1 = n ∨ p (t + 1) = false) (hbeg : f = 0 ∨ p (f - 1) = false) :
    refT p n (n - f) f c = (if c = true then [44] else []) ++ dd f ++ (if f < t then 45 :: dd t else []) ++ refT p n (n - (t + 1)) (t + 1) true := by
  have h1 : pbeg p f = true := by
    unfold pbeg
    rw [hp f (Nat.le_refl _) hft, Bool.true_and]
    rcases hbeg with h | h
    · simp [h]
    · simp [h]
  rw [show n - f = (n - (f + 1)) + 1 by omega, refT, h1, if_pos rfl, Bool.or_true]
  by_cases hlt : f < t
  · rw [if_pos hlt, refT_in p n ht hp hend (t - (f + 1)) (f + 1) (by omega) (by omega)]
    simp
  · obtain rfl : f = t := by omega
    rw [if_neg hlt, List.append_nil]
theorem next_ev {n : Nat} (hn : n ≤ 4096) {p : Nat → Bool} {ws : List Int} (h : Is n p ws) {pos : Nat} (hpos : pos ≤ n) : ∃ r : Int, Ev (fun k => bitset_Next.f k (n : Int) ws (pos : Int)) r ∧ ((r = -1 ∧ ∀ e, pos ≤ e → e < n → p e = false) ∨ ∃ f : Nat, r = (f : Int) ∧ pos ≤ f ∧ f < n ∧ p f = true ∧ ∀ e, pos ≤ e → e < f → p e = false) := by
  have hm : MayP (n : Int) ws := h.may hn
  obtain ⟨K1, h1⟩ := Rank_eq h.wds hm (pos : Int)
  have hcl : cl n (pos : Int) = pos := by unfold cl; omega
  have hrk := rk_le ws pos
  obtain ⟨r, hs, K2, h2⟩ := Select_eq h.wds hm (rk ws pos : Int) (by omega)
  have hin : ∀ e, e < n → p e = true → hb ws e = true := fun e he hp => by rw [h.has e, hp]; simp [he]
  have hout : ∀ e, hb ws e = true → e < n ∧ p e = true := fun e he => by rw [h.has e] at he; simpa using he
  have lt : ∀ e : Nat, hb ws e = true → rk ws e < cnt ws := fun e he => by rw [rk_all hm]; exact rk_lt ws (hout e he).1 he
  refine ⟨r, ⟨K1 + K2, fun k hk => ?_⟩, ?_⟩
  · have y1 := h1 k (by omega)
    have y2 := h2 k (by omega)
    dsimp only at y1 y2
    rw [hcl] at y1
    show bitset_Next.f k (n : Int) ws (pos : Int) = _
    unfold bitset_Next.f
    rw [y1, Option.bind_some, y2, Option.bind_some]
  · rcases hs with ⟨h3, h4⟩ | ⟨e, h3, h4, h5⟩
    · refine .inl ⟨h4, fun e he hen => ?_⟩
      cases hp : p e with
      | false => rfl
      | true =>
        have := lt e (hin e hen hp)
        have := rk_mono ws he
        omega
    · refine .inr ⟨e, h5, ?_, (hout e h3).1, (hout e h3).2, fun d hd hde => ?_⟩
      · refine Nat.le_of_not_lt fun hlt => ?_
        have := rk_lt ws hlt h3
        omega
      · cases hp : p d with
        | false => rfl
        | true =>
          have := rk_lt ws hde (hin d (by have := (hout e h3).1; omega) hp)
          have := rk_mono ws hd
          omega
end Go.Proofs.YtjmkhdhffmlhiaaDoor.PAll
end
section
namespace Go.Proofs.YtjmkhdhffmlhiaaDoor.PAll
set_option linter.unusedVariables false
set_option linter.unusedSimpArgs false
open Go.RowKit Go.Proofs.YtjmkhdhffmlhiaaDoorW.PrintWords Go.Proofs.YtjmkhdhffmlhiaaDoorW.PrintMore
def ba (l : List UInt8) : ByteArray := ⟨l.toArray⟩
theorem ba_append (a b : List UInt8) : ba a ++ ba b = ba (a ++ b) := by
  apply ByteArray.ext
  simp [ba]
theorem ba_size (a : List UInt8) : (ba a).size = a.length := by simp [ba, ByteArray.size]
theorem str_one (v : Nat) (hv : v < 200) : strOfNums [wrap64 ((v : Nat) : Int) % 256] = ba [UInt8.ofNat v] := by
  unfold strOfNums ba
  rw [w64_nat (by omega) (by omega)]
  have : ((v : Int) % 256).toNat = v := by omega
  simp [this]
theorem dec_l0 : ∀ (j u : Nat) (s : List UInt8), u < 10 ^ (j + 1) → u ≤ 100000 → s.length + j ≤ 1000 → Ev (fun k => sloperef3_Decimal.l0 k (u : Int) (ba s)) (ba (dd u ++ s))
  | 0, u, s, h, _, hs => by
    have hu : u < 10 := by omega
    refine ⟨1, fun k hk => ?_⟩
    obtain ⟨k, rfl⟩ : ∃ j, k = j + 1 := ⟨k - 1, by omega⟩
    show sloperef3_Decimal.l0 (k + 1) (u : Int) (ba s) = _
    rw [sloperef3_Decimal.l0, if_neg (by omega), Option.bind_some, show (48 + (u : Int)) = ((48 + u : Nat) : Int) from by omega, str_one _ (by omega), if_pos (by rw [ba_size, ba_size]; simp; omega), ba_append, dd_small hu]
  | j + 1, u, s, h, hu6, hs => by
    by_cases hu : u < 10
    · refine ⟨1, fun k hk => ?_⟩
      obtain ⟨k, rfl⟩ : ∃ j, k = j + 1 := ⟨k - 1, by omega⟩
      show sloperef3_Decimal.l0 (k + 1) (u : Int) (ba s) = _
      rw [sloperef3_Decimal.l0, if_neg (by omega), Option.bind_some, show (48 + (u : Int)) = ((48 + u : Nat) : Int) from by omega, str_one _ (by omega), if_pos (by rw [ba_size, ba_size]; simp; omega), ba_append, dd_small hu]
    · have h1 := dec_l0 j (u / 10) (UInt8.ofNat (48 + u % 10) :: s) (by rw [Nat.pow_succ] at h; omega) (by omega) (by simp; omega)
      have e1 : Int.tmod (u : Int) 10 = ((u % 10 : Nat) : Int) := by rw [Int.tmod_eq_emod_of_nonneg (by omega)]; omega
      have e2 : Int.tdiv (u : Int) 10 = ((u / 10 : Nat) : Int) := by rw [Int.tdiv_eq_ediv_of_nonneg (by omega)]; omega
      refine Ev.step (fun k => ?_) (ev_r h1 (by rw [dd_big hu, List.append_assoc]; rfl))
      rw [sloperef3_Decimal.l0, if_pos (by omega), Option.bind_some, e1, show (48 + ((u % 10 : Nat) : Int)) = ((48 + u % 10 : Nat) : Int) from by omega, str_one _ (by omega), if_pos (by rw [ba_size, ba_size]; simp; omega), ba_append, e2, w64_nat (by omega) (by omega)]
      rfl
theorem dec_ev {u : Nat} (hu : u ≤ 4096) : Ev (fun k => sloperef3_Decimal.f k (u : Int)) (ba (dd u)) :=
  Ev.congr (fun k => rfl) (ev_r (dec_l0 4 u [] (by omega) (by omega) (by simp)) (by rw [List.append_nil]))
theorem pr_l0 {n : Nat} (hn : n ≤ 4096) (p : Nat → Bool) {e : Nat} (he : e < n) (x5 x6 : ByteArray) (k : Nat) : sloperef3_Print.l0 (k + 1) (fl n p) x5 x6 (e : Int) = sloperef3_Print.j1 k (fl n p) x5 x6 (e : Int) (pbeg p e) := by
  rw [sloperef3_Print.l0, fl_len, if_pos (by omega), if_pos (by omega), fl_rd p he]
  cases hp : p e with
  | false => rw [if_neg (by decide)]; simp [pbeg, hp]
  | true =>
    rw [if_pos rfl]
    by_cases h0 : e = 0
    · have hb9 : pbeg p e = true := by unfold pbeg; rw [hp, h0]; rfl
      rw [if_pos (by omega), hb9]
    · have e1 : wrap64 ((e : Int) - 1) = ((e - 1 : Nat) : Int) := by rw [w64_nat (by omega) (by omega)]; omega
      have hb9 : pbeg p e = !p (e - 1) := by unfold pbeg; rw [hp, beq_false_of_ne h0]; simp
      rw [if_neg (by omega), e1, if_pos (by omega), if_pos (by omega), fl_rd p (by omega), hb9]
theorem pr_j1 {n : Nat} (hn : n ≤ 4096) (p : Nat → Bool) {e : Nat} (he : e < n) (x5 x6 : ByteArray) (b : Bool) (k : Nat) : sloperef3_Print.j1 (k + 1) (fl n p) x5 x6 (e : Int) b = sloperef3_Print.j2 k (fl n p) x5 x6 (e : Int) b (pend p n e) := by
  rw [sloperef3_Print.j1, fl_len, if_pos (by omega), if_pos (by omega), fl_rd p he]
  cases hp : p e with
  | false => rw [if_neg (by decide)]; simp [pend, hp]
  | true =>
    rw [if_pos rfl]
    have e1 : wrap64 ((n : Int) - 1) = ((n - 1 : Nat) : Int) := by rw [w64_nat (by omega) (by omega)]; omega
    rw [e1]
    by_cases h0 : e + 1 = n
    · have hb9 : pend p n e = true := by unfold pend; rw [hp, h0]; simp
      rw [if_pos (by omega), hb9]
    · have hb9 : pend p n e = !p (e + 1) := by unfold pend; rw [hp, beq_false_of_ne h0]; simp
      rw [if_neg (by omega), wi hn he, if_pos (by omega), if_pos (by omega), fl_rd p (by omega), hb9]
theorem refPrint_l0 {n : Nat} (hn : n ≤ 4096) (p : Nat → Bool) : ∀ (d e : Nat) (c : Bool) (o : List UInt8), e + d = n → o.length ≤ 6 * e + 10 →
    Ev (fun k => sloperef3_Print.l0 k (fl n p) (ba o) (ba (if c = true then [44] else [])) (e : Int)) (ba (o ++ refT p n d e c), 0)
  | 0, e, c, o, h, ho => by
    refine ⟨1, fun k hk => ?_⟩
    obtain ⟨k, rfl⟩ : ∃ j, k = j + 1 := ⟨k - 1, by omega⟩
    show sloperef3_Print.l0 (k + 1) (fl n p) (ba o) _ (e : Int) = _
    rw [sloperef3_Print.l0, fl_len, if_neg (by omega), refT, List.append_nil]
  | d + 1, e, c, o, h, ho => by
    have he : e < n := by omega
    have hdl := dd_le (u := e) (by omega)
    have hcl : (if c = true then [(44 : UInt8)] else []).length ≤ 1 := by split <;> simp
    refine Ev.step (fun k => pr_l0 hn p he _ _ k) (Ev.step (fun k => pr_j1 hn p he _ _ _ k) ?_)
    have ih1 := refPrint_l0 hn p d (e + 1) true
    have ih2 := refPrint_l0 hn p d (e + 1) c
    rw [refT]
    generalize (if c = true then [(44 : UInt8)] else []) = cs at hcl ih2 ⊢
    by_cases hb1 : pbeg p e = true
    · have ih := ih1 (o ++ cs ++ dd e) (by omega) (by rw [List.length_append, List.length_append]; omega)
      have e3 : (if pbeg p e = true then cs ++ dd e else if pend p n e = true then 45 :: dd e else []) = cs ++ dd e := if_pos hb1
      rw [e3, hb1, Bool.or_true]
      refine Ev.step (f := fun k => (sloperef3_Decimal.f k (e : Int)).bind fun t => (if (ba o ++ ba cs).size + t.size ≤ 9223372036854775807 then sloperef3_Print.l0 k (fl n p) ((ba o ++ ba cs) ++ t) (ba [44]) ((e + 1 : Nat) : Int) else none)) (fun k => ?_) (Ev.bind (dec_ev (u := e) (by omega)) ?_)
      · rw [sloperef3_Print.j2, if_pos rfl, if_pos (by rw [ba_size, ba_size]; omega), wi hn he]
        refine congrArg _ (funext fun t => ?_)
        by_cases h1 : (ba o ++ ba cs).size + t.size ≤ 9223372036854775807
        · rw [if_pos h1, if_pos h1]
          by_cases h2 : pend p n e = true
          · rw [if_pos h2]; rfl
          · rw [if_neg h2]; rfl
        · rw [if_neg h1, if_neg h1]
      · refine Ev.congr (fun k => ?_) (ev_r ih ?_)
        · show (if _ then _ else _) = _
          rw [ba_append, if_pos (by rw [ba_size, ba_size, List.length_append]; omega), ba_append]; rfl
        · simp
    · have hb2 : pbeg p e = false := by simpa using hb1
      by_cases he2 : pend p n e = true
      · have ih := ih2 (o ++ 45 :: dd e) (by omega) (by rw [List.length_append, List.length_cons]; omega)
        have e3 : (if pbeg p e = true then cs ++ dd e else if pend p n e = true then 45 :: dd e else []) = 45 :: dd e := by rw [if_neg hb1, if_pos he2]
        rw [e3, hb2, he2, Bool.or_false]
        refine Ev.step (f := fun k => (sloperef3_Decimal.f k (e : Int)).bind fun t => (if (ba o ++ ba [45]).size + t.size ≤ 9223372036854775807 then sloperef3_Print.l0 k (fl n p) ((ba o ++ ba [45]) ++ t) (ba cs) ((e + 1 : Nat) : Int) else none)) (fun k => ?_) (Ev.bind (dec_ev (u := e) (by omega)) ?_)
        · rw [sloperef3_Print.j2, if_neg (by decide), if_pos rfl, if_pos (by rw [ba_size]; omega), wi hn he]
          rfl
        · refine Ev.congr (fun k => ?_) (ev_r ih ?_)
          · show (if _ then _ else _) = _
            rw [ba_append, if_pos (by rw [ba_size, ba_size, List.length_append]; simp; omega), ba_append, List.append_assoc]; rfl
          · simp
      · have he3 : pend p n e = false := by simpa using he2
        have ih := ih2 o (by omega) (by omega)
        have e3 : (if pbeg p e = true then cs ++ dd e else if pend p n e = true then 45 :: dd e else []) = [] := by rw [if_neg hb1, if_neg he2]
        rw [e3, hb2, he3, Bool.or_false, List.nil_append]
        refine Ev.step (fun k => ?_) ih
        rw [sloperef3_Print.j2, if_neg (by decide), if_neg (by decide), wi hn he]
theorem refPrint_ev {n : Nat} (hn : n ≤ 4096) {p : Nat → Bool} {ws : List Int} (h : Is n p ws) : Ev (fun k => sloperef3_Print.f k (n : Int) ws) (ba (txtOf p n), 0) := by
  have hm : MayP (n : Int) ws := h.may hn
  obtain ⟨K1, h1⟩ := rMay_eq (n : Int) ws h.wds (by have := h.len; omega)
  obtain ⟨K2, h2⟩ := List_eq hm h.wds
  obtain ⟨K3, h3⟩ := dec_ev hn
  have hdl := dd_le hn
  obtain ⟨K4, h4⟩ := refPrint_l0 hn p n 0 false (dd n ++ [58]) (by omega) (by rw [List.length_append]; simp; omega)
  refine ⟨K1 + K2 + K3 + K4, fun k hk => ?_⟩
  have y1 := h1 k (by omega)
  have y2 := h2 k (by omega)
  have y3 := h3 k (by omega)
  have y4 := h4 k (by omega)
  dsimp only at y1 y2 y3 y4
  have e1 : (List.range n).map (hb ws) = fl n p := List.map_congr_left fun e he => by rw [h.has e]; simp [List.mem_range.1 he]
  show sloperef3_Print.f k (n : Int) ws = _
  unfold sloperef3_Print.f
  rw [y1, may_true.2 hm, Option.bind_some, if_pos rfl, y2, Option.bind_some, y3, Option.bind_some, if_pos (by rw [ba_size]; omega), e1, show (⟨#[58]⟩ : ByteArray) = ba [58] from rfl, ba_append]
  refine Eq.trans y4 ?_
  rw [List.append_assoc]
  rfl
theorem refPrint_no {n : Int} {ws : List Int} (hw : Wds ws) (hl : ws.length ≤ 9223372036854775807) (h : ¬ MayP n ws) : Ev (fun k => sloperef3_Print.f k n ws) (ba [], 61) := by
  obtain ⟨K1, h1⟩ := rMay_eq n ws hw hl
  refine ⟨K1, fun k hk => ?_⟩
  have y1 := h1 k (by omega)
  dsimp only at y1
  show sloperef3_Print.f k n ws = _
  unfold sloperef3_Print.f
  rw [y1, may_false.2 h, Option.bind_some, if_neg (by decide)]
  rfl
end Go.Proofs.YtjmkhdhffmlhiaaDoor.PAll
end
section
namespace Go.Proofs.YtjmkhdhffmlhiaaDoor.PAll
set_option linter.unusedVariables false
set_option linter.unusedSimpArgs false
open Go.RowKit Go.Shelf Go.Proofs.YtjmkhdhffmlhiaaDoorW.PrintWords Go.Proofs.YtjmkhdhffmlhiaaDoorW.PrintLast Go.Proofs.YtjmkhdhffmlhiaaDoorW.PrintMore
attribute [local go_sem] Oper.semAt_some
theorem IsBuilder.below {B b : Nat} {bs : List Value} {W W' : World} (h : Lib.IsBuilder BT U8 B b bs W) (hb : Below W.heap.size W W') : Lib.IsBuilder BT U8 B b bs W' := by
  have at_ : ∀ {p}, Lib.BuilderAt BT U8 B b p bs W → Lib.BuilderAt BT U8 B b p bs W' := by
    rintro p ⟨h1, v, h2, h3, h4⟩
    exact ⟨h1, v, blk_below h2 hb, h3.kept (row := none) ⟨hb.os, hb.tape, hb.output, hb.size, fun k hk _ => hb.block k hk⟩ (by cases hv : v.ownBlock with
      | none => exact .inl rfl
      | some k => exact .inr (by simp)), h4⟩
  rcases h with h | h
  · exact .inl (at_ h)
  · exact .inr (at_ h)
theorem _root_.Go.Lib.IsBuilder.size_le {B : Nat} {bs : List Value} {W : World} {T e : TypeId} (h : Lib.IsBuilder T e B B bs W) : B ≤ W.heap.size := by
  rcases h with h | h
  · exact Nat.le_of_lt h.lt
  · exact Nat.le_of_lt h.lt
theorem bytes_len (l : List UInt8) : (Lib.byteCells l).length = l.length := Lib.byteCells_length l
theorem str_size (l : List UInt8) : (⟨l.toArray⟩ : ByteArray).size = l.length := by simp [ByteArray.size]
theorem bytes_app (a b : List UInt8) : Lib.byteCells a ++ Lib.byteCells b = Lib.byteCells (a ++ b) := by simp [Lib.byteCells]
structure Pst (p : Nat → Bool) (n pos : Nat) (c : Bool) (bt : List UInt8) (fr : Int) : Prop where
  le : pos ≤ n
  ok : pos = 0 ∨ p (pos - 1) = false ∨ pos = n ∨ p pos = false
  txt : bt ++ (if c = true then [] else [58]) ++ refT p n (n - pos) pos c = txtOf p n
  nxt : (fr = -1 ∧ ∀ e, pos ≤ e → e < n → p e = false) ∨ ∃ f : Nat, fr = (f : Int) ∧ pos ≤ f ∧ f < n ∧ p f = true ∧ ∀ e, pos ≤ e → e < f → p e = false
theorem txtOf_len {p : Nat → Bool} {n : Nat} (hn : n ≤ 4096) : (txtOf p n).length ≤ 30000 := by
  unfold txtOf
  rw [List.length_append, List.length_cons]
  have h1 := dd_le hn
  have h2 := refT_len p n n 0 false (by omega)
  omega
theorem Pst.len {p : Nat → Bool} {n pos : Nat} {c : Bool} {bt : List UInt8} {fr : Int} (h : Pst p n pos c bt fr) (hn : n ≤ 4096) : bt.length ≤ 30000 := by
  have h1 := congrArg List.length h.txt
  rw [List.length_append, List.length_append] at h1
  have := txtOf_len (p := p) hn
  omega
theorem refT_none {p : Nat → Bool} {n pos : Nat} (c : Bool) (hle : pos ≤ n) (h : ∀ e, pos ≤ e → e < n → p e = false) : refT p n (n - pos) pos c = [] := by
  rw [refT_skip p n c (Nat.le_refl n) (n - pos) pos (by omega) h, Nat.sub_self]
  rfl
theorem Pst.fin_no {p : Nat → Bool} {n pos : Nat} {bt : List UInt8} {fr : Int} (h : Pst p n pos false bt fr) (hno : ∀ e, pos ≤ e → e < n → p e = false) : bt ++ [58] = txtOf p n := by
  have := h.txt
  rw [refT_none false h.le hno, List.append_nil] at this
  exact this
theorem Pst.fin_yes {p : Nat → Bool} {n pos : Nat} {bt : List UInt8} {fr : Int} (h : Pst p n pos true bt fr) (hno : ∀ e, pos ≤ e → e < n → p e = false) : bt = txtOf p n := by
  have := h.txt
  rw [refT_none true h.le hno, List.append_nil, if_pos rfl, List.append_nil] at this
  exact this
theorem Pst.more {p : Nat → Bool} {n pos : Nat} {c : Bool} {bt bt2 : List UInt8} {fr : Int} {f t : Nat} (h : Pst p n pos c bt fr) (hn : n ≤ 4096) (hpf : pos ≤ f) (hno : ∀ e, pos ≤ e → e < f → p e = false) (hft : f ≤ t) (htn : t < n) (hall : ∀ e, f ≤ e → e ≤ t → p e = true) (hend : t + 1 = n ∨ p (t + 1) = false)
    (hbt : bt2 = bt ++ [if c = true then 44 else 58] ++ dd f ++ (if f < t then 45 :: dd t else [])) : bt2 ++ refT p n (n - (t + 1)) (t + 1) true = txtOf p n ∧ t + 1 ≤ n ∧ (t + 1 = n ∨ p (t + 1) = false) := by
  refine ⟨?_, htn, hend⟩
  have hf : p f = true := hall f (Nat.le_refl _) hft
  have h1 := h.txt
  rw [refT_skip p n c (show f ≤ n by omega) (f - pos) pos (by omega) hno, refT_run p n c hft htn hall hend] at h1
  · rw [← h1, hbt]
    cases c <;> simp
  · by_cases h0 : f = 0
    · exact .inl h0
    · refine .inr ?_
      by_cases h2 : pos = f
      · rcases h.ok with h3 | h3 | h3 | h3
        · omega
        · rw [← h2]; exact h3
        · omega
        · rw [h2, hf] at h3; cases h3
      · exact hno (f - 1) (by omega) (by omega)
theorem Pst.next_ {p : Nat → Bool} {n t : Nat} {bt2 : List UInt8} {ws : List Int} (hn : n ≤ 4096) (hw : Is n p ws) (h : bt2 ++ refT p n (n - (t + 1)) (t + 1) true = txtOf p n ∧ t + 1 ≤ n ∧ (t + 1 = n ∨ p (t + 1) = false)) :
    ∃ (fr : Int) (k : Nat), bitset_Next.f k (n : Int) ws ((t + 1 : Nat) : Int) = some fr ∧ Pst p n (t + 1) true bt2 fr := by
  obtain ⟨fr, ⟨k, hk⟩, h1⟩ := next_ev hn hw h.2.1
  refine ⟨fr, k, hk k (Nat.le_refl _), h.2.1, ?_, ?_, h1⟩
  · rcases h.2.2 with h2 | h2
    · exact .inr (.inr (.inl h2))
    · exact .inr (.inr (.inr h2))
  · rw [if_pos rfl, List.append_nil]
    exact h.1
def Psl (p : Nat → Bool) (n pos : Nat) (bt : List UInt8) (fr ld : Int) : Prop := ∃ c : Bool, Pst p n pos c bt fr ∧ ld = ((if c = true then 44 else 58 : UInt8).toNat : Int)
def pmeas (n : Nat) (v : Int) : Nat := if v < 0 then 0 else n + 1 - v.toNat
theorem Pst.dec {p : Nat → Bool} {n f pos : Nat} {c : Bool} {bt : List UInt8} {fr : Int} (h : Pst p n pos c bt fr) (hfn : f < n) (hf : f < pos) :
    pmeas n (intOf (.int .i64 fr)) < pmeas n (intOf (.int .i64 (f : Int))) := by
  show (if fr < 0 then 0 else n + 1 - fr.toNat) < (if (f : Int) < 0 then 0 else n + 1 - (f : Int).toNat)
  rw [if_neg (show ¬ (f : Int) < 0 by omega), Int.toNat_natCast]
  rcases h.nxt with ⟨h1, _⟩ | ⟨g, h1, h2, h3, _⟩
  · rw [h1, if_pos (by omega)]; omega
  · rw [h1, if_neg (by omega), Int.toNat_natCast]; omega
set_option maxHeartbeats 8000000 in
set_option maxRecDepth 100000 in
theorem Print_yes (kn n : Nat) (hn : n ≤ 4096) (p : Nat → Bool) (A0 : Option Addr) (c0 : Nat) (ws : List Int) (w : World) (hr0 : Kd.C (Kd.int .u64) w A0 ws.length ws) (hc0 : ws.length ≤ c0) (hG : Tz w) (hP : Pw w) (hIs : Is n p ws) (hM : bitset_May.f (n : Int) ws = some true)
    (fr0 : Int) (hN : bitset_Next.f kn (n : Int) ws 0 = some fr0) (hST : Pst p n 0 false (dd n) fr0) :
    Calls Tryd.prog 61 #[.agg #[.int .i64 n, .slice A0 ws.length c0]] w fun e w' => e = .returned (.tuple #[.string ⟨(txtOf p n).toArray⟩, .int .i64 0]) ∧ Below w.heap.size w w' := by
  have hu24 := Tryd.underlying24
  have HC := Aside0.mk hr0
  have HG := Aside0.mk hG
  have HP := Aside0.mk hP
  have HM := Aside0.mk hM
  have HN := Aside0.mk hN
  have HST := Aside0.mk hST
  have hHAS := Aside0.mk (fun (e : Nat) (he : e < n) => show bitset_has.f (n : Int) ws (e : Int) = some (p e) from by
    rw [has_eq hIs.wds (by have := hIs.len; omega) (by omega), hIs.has e]; simp [he])
  have hdn : (Lib.decDigits n).length ≤ 4 := dd_le hn
  clear hr0 hG hP hM hN hST
  have KA := Aside0.mk (blk_new w (.cells #[.int .i64 n, .slice A0 ws.length c0] 24 (0, 0)))
  have HB := Aside0.mk (below_alloc (Below.refl w.heap.size w) (.cells #[.int .i64 n, .slice A0 ws.length c0] 24 (0, 0)))
  refine (callsIn_wide (n := 6)).1 ?_
  refine callsIn_of_wp Tryd.func61 rfl trivial ?_ rfl
  simp only [Tryd.ntmps61, List.size_toArray, List.length_cons, List.length_nil, Nat.reduceAdd, Nat.reduceSub, Array.replicate_succ, Array.replicate_zero, List.push_toArray, List.append_toArray, List.nil_append, List.cons_append]
  have q0 := (blk_cell KA.out 0).trans rfl; have q1 := (blk_cell KA.out 1).trans rfl
  gi_wp2_with fail
  refine ⟨trivial, ?_⟩; gi_at_call 69
  refine (callsIn_wide.2 (bitset_May.calls (n : Nat) _ _ ws true _ (Kd.C_below HC.out HB.out) hc0 HM.out)).mono ?_
  rintro e_ w1 ⟨rfl, hb⟩
  have kA2 := Aside0.mk (blk_below KA.out hb); have hB2 := Aside0.mk (below_step HB.out hb); clear KA HB hb q0 q1; have KA := kA2; have HB := hB2; clear kA2 hB2
  have hlt1 : w.heap.size < w1.heap.size := blk_lt KA.out
  have hI0 := Aside0.mk (.inl ⟨Nat.le_refl _, .slice none 0 0, blk_new w1 _, World.ownsRow_nil _ _ _ _, by simp [Value.ownBlock]⟩ : Lib.IsBuilder BT U8 w1.heap.size w1.heap.size (Lib.byteCells []) (w1.alloc (.cells #[.pointer none, .slice none 0 0] BT (0, 0))))
  have kA2 := Aside0.mk (blk_alloc KA.out (.cells #[.pointer none, .slice none 0 0] BT (0, 0))); have hB2 := Aside0.mk (below_alloc HB.out (.cells #[.pointer none, .slice none 0 0] BT (0, 0))); clear KA HB; have KA := kA2; have HB := hB2; have HI := hI0; clear kA2 hB2 hI0
  have q0 := (blk_cell KA.out 0).trans rfl; have q1 := (blk_cell KA.out 1).trans rfl
  gi_wp2_with fail
  refine ⟨trivial, ?_⟩; gi_at_call 101
  refine (callsIn_wide.2 (itoa_calls n (by omega) _ (pw_at HP.out HB.out))).mono ?_
  rintro e_ w2 ⟨rfl, hb⟩
  have hI2 := Aside0.mk (IsBuilder.below HI.out hb); have kA2 := Aside0.mk (blk_below KA.out hb); have hB2 := Aside0.mk (below_step HB.out hb)
  clear HI KA HB hb; have HI := hI2; have KA := kA2; have HB := hB2; clear hI2 kA2 hB2
  clear q0 q1
  gi_wp2_with fail
  refine ⟨trivial, ?_⟩; gi_at_call 100
  refine (callsIn_wide.2 (writeString _ _ _ _ _ HI.out (by rw [bytes_len, str_size]; simp; omega) HI.out.size_le)).mono ?_
  rintro e_ w3 ⟨rfl, h1_, hb⟩
  have hI2 := Aside0.mk (show Lib.IsBuilder BT U8 w1.heap.size w1.heap.size (Lib.byteCells ([] ++ dd n)) w3 from .inr (by rw [← bytes_app]; first | exact h1_ | (rw [HLD.out] at h1_; exact h1_))); have kA2 := Aside0.mk ((hb.block _ hlt1).trans KA.out); have hB2 := Aside0.mk (below_more HB.out hb (Nat.le_of_lt hlt1))
  clear HI KA HB hb h1_; have HI := hI2; have KA := kA2; have HB := hB2; clear hI2 kA2 hB2
  have q0 := (blk_cell KA.out 0).trans rfl; have q1 := (blk_cell KA.out 1).trans rfl
  gi_wp2_with fail
  refine ⟨trivial, ?_⟩; gi_at_call 29
  refine (callsIn_wide.2 (bitset_Next.calls kn (n : Nat) _ _ ws 0 fr0 _ (Kd.C_below HC.out HB.out) hc0 (tz_at HG.out HB.out) HN.out)).mono ?_
  rintro e_ w4 ⟨rfl, hb⟩
  have hI2 := Aside0.mk (IsBuilder.below HI.out hb); have kA2 := Aside0.mk (blk_below KA.out hb); have hB2 := Aside0.mk (below_step HB.out hb)
  clear HI KA HB hb; have HI := hI2; have KA := kA2; have HB := hB2; clear hI2 kA2 hB2
  clear q0 q1
  gi_wp2_with fail
  refine wpIn_loop (fun a W => ∃ (pos : Nat) (bt : List UInt8) (fr ld : Int) (u7 u14 u16 u17 u18 u19 u20 u21 u22 u23 u24 u25 u26 u27 u28 u29 u30 u31 u32 u33 u34 u35 u36 u37 u38 u39 u40 u41 u42 u43 u44 u45 u46 u47 : Value), a = { tmps := #[.agg #[.int .i64 n, .slice A0 ws.length c0], .pointer (some ⟨w.heap.size, 0, none⟩), .string .empty, .int .i64 0, .pointer (some ⟨w1.heap.size, 0, none⟩), .int .u8 ld, .int .i64 fr, u7, .agg #[.int .i64 n, .slice A0 ws.length c0], .bool true, .bool false, .pointer (some ⟨w.heap.size, 0, none⟩), .int .i64 n, .string ⟨(dd n).toArray⟩, u14, .agg #[.int .i64 n, .slice A0 ws.length c0], u16, u17, u18, u19, u20, u21, u22, u23, u24, u25, u26, u27, u28, u29, u30, u31, u32, u33, u34, u35, u36, u37, u38, u39, u40, u41, u42, u43, u44, u45, u46, u47, undef, undef, undef, undef, undef], defers := [] } ∧ Aside0 (Psl p n pos bt fr ld) ∧ Aside0 (Lib.IsBuilder BT U8 w1.heap.size w1.heap.size (Lib.byteCells bt) W) ∧ Aside0 (W.heap[w.heap.size]? = some (.cells #[.int .i64 n, .slice A0 ws.length c0] 24 (0, 0))) ∧ Aside0 (Below w.heap.size w W))
    (fun a _ => pmeas n (intOf (a.tmps.getD 6 undef))) ?start ?round
  case start =>
    exact ⟨0, dd n, fr0, 58, _, _, _, _, _, _, _, _, _, _, _, _, _, _, _, _, _, _, _, _, _, _, _, _, _, _, _, _, _, _, _, _, _, _, rfl, ⟨⟨false, HST.out, rfl⟩⟩, HI, KA, HB⟩
  case round =>
    clear HI KA HB HST
    rintro a wr ⟨pos, bt, fr, ld, u7, u14, u16, u17, u18, u19, u20, u21, u22, u23, u24, u25, u26, u27, u28, u29, u30, u31, u32, u33, u34, u35, u36, u37, u38, u39, u40, u41, u42, u43, u44, u45, u46, u47, rfl, HSL, HI, KA, HB⟩
    obtain ⟨c, hst_, hld_⟩ := HSL.out
    have HST := Aside0.mk hst_; have HLD := Aside0.mk hld_; clear HSL hst_ hld_
    have hbt := HST.out.len hn
    rcases HST.out.nxt with ⟨hfr, hno⟩ | ⟨f, hfr, hpf, hfn, hpf2, hno⟩
    · skip
      subst hfr
      have hd : decide ((-1 : Int) ≥ 0) = false := by decide
      cases c with
      | false =>
        obtain rfl : ld = 58 := HLD.out
        gi_wp2_with fail
        refine ⟨trivial, ?_⟩; gi_at_call 102
        refine (callsIn_wide.2 (writeByte _ _ _ _ _ HI.out (by rw [bytes_len]; omega) HI.out.size_le)).mono ?_
        rintro e_ w5 ⟨rfl, h1_, hb⟩
        have hI2 := Aside0.mk (show Lib.IsBuilder BT U8 w1.heap.size w1.heap.size (Lib.byteCells (bt ++ [58])) w5 from .inr (by rw [← bytes_app]; first | exact h1_ | (rw [HLD.out] at h1_; exact h1_))); have kA2 := Aside0.mk ((hb.block _ hlt1).trans KA.out); have hB2 := Aside0.mk (below_more HB.out hb (Nat.le_of_lt hlt1))
        clear HI KA HB hb h1_; have HI := hI2; have KA := kA2; have HB := hB2; clear hI2 kA2 hB2
        gi_wp2_with fail
        refine ⟨trivial, ?_⟩; gi_at_call 103
        refine (callsIn_wide.2 (builderString _ _ _ _ HI.out HI.out.size_le)).mono ?_
        rintro e_ wf ⟨rfl, hb⟩
        have hBf := below_more HB.out hb (Nat.le_of_lt hlt1)
        gi_wp2_with fail
        refine bodyPost_ret (v := .tuple #[.string ⟨(txtOf p n).toArray⟩, .int .i64 0]) ?_ rfl ⟨rfl, hBf⟩
        simp [results, Tryd.f61, go_sem]
        exact HST.out.fin_no hno
      | true =>
        obtain rfl : ld = 44 := HLD.out
        gi_wp2_with fail
        refine ⟨trivial, ?_⟩; gi_at_call 103
        refine (callsIn_wide.2 (builderString _ _ _ _ HI.out HI.out.size_le)).mono ?_
        rintro e_ wf ⟨rfl, hb⟩
        have hBf := below_more HB.out hb (Nat.le_of_lt hlt1)
        gi_wp2_with fail
        refine bodyPost_ret (v := .tuple #[.string ⟨(txtOf p n).toArray⟩, .int .i64 0]) ?_ rfl ⟨rfl, hBf⟩
        simp [results, Tryd.f61, go_sem]
        exact HST.out.fin_yes hno
    · skip
      subst hfr
      have hd : decide ((f : Int) ≥ 0) = true := decide_eq_true (by omega)
      gi_wp2_with fail
      refine wpIn_loop (fun a W => ∃ (t : Nat) (y20 y21 y22 y23 y24 y25 y26 y27 y28 y29 y30 y31 : Value), a = { tmps := #[.agg #[.int .i64 n, .slice A0 ws.length c0], .pointer (some ⟨w.heap.size, 0, none⟩), .string .empty, .int .i64 0, .pointer (some ⟨w1.heap.size, 0, none⟩), .int .u8 ld, .int .i64 (f : Nat), .int .i64 (t : Nat), .agg #[.int .i64 n, .slice A0 ws.length c0], .bool true, .bool false, .pointer (some ⟨w.heap.size, 0, none⟩), .int .i64 n, .string ⟨(dd n).toArray⟩, u14, .agg #[.int .i64 n, .slice A0 ws.length c0], u16, .int .i64 (f : Nat), .bool true, .int .i64 (f : Nat), y20, y21, y22, y23, y24, y25, y26, y27, y28, y29, y30, y31, u32, u33, u34, u35, u36, u37, u38, u39, u40, u41, u42, u43, u44, u45, u46, u47, undef, undef, undef, undef, undef], defers := [] } ∧ Aside0 (f ≤ t ∧ t < n ∧ ∀ e, f ≤ e → e ≤ t → p e = true) ∧ Aside0 (Lib.IsBuilder BT U8 w1.heap.size w1.heap.size (Lib.byteCells bt) W) ∧ Aside0 (W.heap[w.heap.size]? = some (.cells #[.int .i64 n, .slice A0 ws.length c0] 24 (0, 0))) ∧ Aside0 (Below w.heap.size w W))
        (fun a _ => n - (intOf (a.tmps.getD 7 undef)).toNat) ?start2 ?round2
      case start2 =>
        exact ⟨f, _, _, _, _, _, _, _, _, _, _, _, _, rfl, ⟨⟨Nat.le_refl _, hfn, fun e h1 h2 => (show f = e by omega) ▸ hpf2⟩⟩, HI, KA, HB⟩
      case round2 =>
        clear HI KA HB
        rintro a wi ⟨t, y20, y21, y22, y23, y24, y25, y26, y27, y28, y29, y30, y31, rfl, HTT, HI, KA, HB⟩
        obtain ⟨hft, htn, hall⟩ := HTT.out
        have HW1 := Aside0.mk (show wrap64 ((t : Int) + 1) = ((t + 1 : Nat) : Int) from by rw [w64_nat (by omega) (by omega)]; omega)
        by_cases hin : t + 1 < n
        · skip
          have q0 := (blk_cell KA.out 0).trans rfl; have q1 := (blk_cell KA.out 1).trans rfl
          gi_wp2_with fail
          refine ⟨trivial, ?_⟩; gi_at_call 71
          refine (callsIn_wide.2 (bitset_within.calls (n : Nat) _ _ ws ((t : Nat) + 1) true _ (Kd.C_below HC.out HB.out) hc0 (by have := within_yes (n := n) ws hin; push_cast at this; exact this))).mono ?_
          rintro e_ w5 ⟨rfl, hb⟩
          have hI2 := Aside0.mk (IsBuilder.below HI.out hb); have kA2 := Aside0.mk (blk_below KA.out hb); have hB2 := Aside0.mk (below_step HB.out hb)
          clear HI KA HB hb; have HI := hI2; have KA := kA2; have HB := hB2; clear hI2 kA2 hB2
          clear q0 q1
          have q0 := (blk_cell KA.out 0).trans rfl; have q1 := (blk_cell KA.out 1).trans rfl
          gi_wp2_with fail
          refine ⟨trivial, ?_⟩; gi_at_call 77
          refine (callsIn_wide.2 (bitset_has.calls (n : Nat) _ _ ws ((t : Nat) + 1) (p (t + 1)) _ (Kd.C_below HC.out HB.out) hc0 (by have := hHAS.out (t + 1) hin; push_cast at this; exact this))).mono ?_
          rintro e_ w6 ⟨rfl, hb⟩
          have hI2 := Aside0.mk (IsBuilder.below HI.out hb); have kA2 := Aside0.mk (blk_below KA.out hb); have hB2 := Aside0.mk (below_step HB.out hb)
          clear HI KA HB hb; have HI := hI2; have KA := kA2; have HB := hB2; clear hI2 kA2 hB2
          clear q0 q1
          cases hp1 : p (t + 1) with
          | true =>
            gi_wp2_with fail
            rw [show ((t : Int) + 1) = ((t + 1 : Nat) : Int) from by omega]
            refine ⟨⟨t + 1, _, _, _, _, _, _, _, _, _, _, _, _, rfl, ⟨⟨by omega, hin, fun e h1 h2 => ?_⟩⟩, HI, KA, HB⟩, ?_⟩
            · by_cases he : e = t + 1
              · rw [he]; exact hp1
              · exact hall e h1 (by omega)
            · show n - (intOf (.int .i64 ((t + 1 : Nat) : Int))).toNat < n - (intOf (.int .i64 (t : Int))).toNat
              simp only [intOf, Int.toNat_natCast]
              omega
          | false =>
            have hend : t + 1 = n ∨ p (t + 1) = false := .inr hp1
            gi_wp2_with fail
            refine ⟨trivial, ?_⟩; gi_at_call 102
            refine (callsIn_wide.2 (writeByte _ _ _ _ _ HI.out (by rw [bytes_len]; omega) HI.out.size_le)).mono ?_
            rintro e_ w7 ⟨rfl, h1_, hb⟩
            have hI2 := Aside0.mk (show Lib.IsBuilder BT U8 w1.heap.size w1.heap.size (Lib.byteCells (bt ++ [if c = true then 44 else 58])) w7 from .inr (by rw [← bytes_app]; first | exact h1_ | (rw [HLD.out] at h1_; exact h1_))); have kA2 := Aside0.mk ((hb.block _ hlt1).trans KA.out); have hB2 := Aside0.mk (below_more HB.out hb (Nat.le_of_lt hlt1))
            clear HI KA HB hb h1_; have HI := hI2; have KA := kA2; have HB := hB2; clear hI2 kA2 hB2
            gi_wp2_with fail
            refine ⟨trivial, ?_⟩; gi_at_call 101
            refine (callsIn_wide.2 (itoa_calls f (by omega) _ (pw_at HP.out HB.out))).mono ?_
            rintro e_ w8 ⟨rfl, hb⟩
            have hI2 := Aside0.mk (IsBuilder.below HI.out hb); have kA2 := Aside0.mk (blk_below KA.out hb); have hB2 := Aside0.mk (below_step HB.out hb)
            clear HI KA HB hb; have HI := hI2; have KA := kA2; have HB := hB2; clear hI2 kA2 hB2
            have hdf : (Lib.decDigits f).length ≤ 4 := dd_le (u := f) (by omega); have hdt : (Lib.decDigits t).length ≤ 4 := dd_le (u := t) (by omega); have hdf2 : (dd f).length ≤ 4 := hdf; have hdt2 : (dd t).length ≤ 4 := hdt
            gi_wp2_with fail
            refine ⟨trivial, ?_⟩; gi_at_call 100
            refine (callsIn_wide.2 (writeString _ _ _ _ _ HI.out (by rw [bytes_len, str_size, List.length_append]; simp; omega) HI.out.size_le)).mono ?_
            rintro e_ w9 ⟨rfl, h1_, hb⟩
            have hI2 := Aside0.mk (show Lib.IsBuilder BT U8 w1.heap.size w1.heap.size (Lib.byteCells (bt ++ [if c = true then 44 else 58] ++ dd f)) w9 from .inr (by rw [← bytes_app]; first | exact h1_ | (rw [HLD.out] at h1_; exact h1_))); have kA2 := Aside0.mk ((hb.block _ hlt1).trans KA.out); have hB2 := Aside0.mk (below_more HB.out hb (Nat.le_of_lt hlt1))
            clear HI KA HB hb h1_; have HI := hI2; have KA := kA2; have HB := hB2; clear hI2 kA2 hB2
            by_cases hlt : f < t
            · have hd2 : decide ((t : Int) > (f : Int)) = true := decide_eq_true (by omega)
              gi_wp2_with fail
              refine ⟨trivial, ?_⟩; gi_at_call 101
              refine (callsIn_wide.2 (itoa_calls t (by omega) _ (pw_at HP.out HB.out))).mono ?_
              rintro e_ w10 ⟨rfl, hb⟩
              have hI2 := Aside0.mk (IsBuilder.below HI.out hb); have kA2 := Aside0.mk (blk_below KA.out hb); have hB2 := Aside0.mk (below_step HB.out hb)
              clear HI KA HB hb; have HI := hI2; have KA := kA2; have HB := hB2; clear hI2 kA2 hB2
              gi_wp2_with fail
              refine ⟨trivial, ?_⟩; gi_at_call 100
              refine (callsIn_wide.2 (writeString _ _ _ _ _ HI.out (by rw [bytes_len, str_size, List.length_append, List.length_append]; simp; omega) HI.out.size_le)).mono ?_
              rintro e_ w11 ⟨rfl, h1_, hb⟩
              have hI2 := Aside0.mk (show Lib.IsBuilder BT U8 w1.heap.size w1.heap.size (Lib.byteCells (bt ++ [if c = true then 44 else 58] ++ dd f ++ 45 :: dd t)) w11 from .inr (by rw [← bytes_app]; first | exact h1_ | (rw [HLD.out] at h1_; exact h1_))); have kA2 := Aside0.mk ((hb.block _ hlt1).trans KA.out); have hB2 := Aside0.mk (below_more HB.out hb (Nat.le_of_lt hlt1))
              clear HI KA HB hb h1_; have HI := hI2; have KA := kA2; have HB := hB2; clear hI2 kA2 hB2
              obtain ⟨fr2, kn2, hN2, hST2⟩ := Pst.next_ hn hIs (HST.out.more hn hpf hno hft htn hall hend (bt2 := _) (by rw [if_pos hlt]))
              have HN2 := Aside0.mk hN2; have HST2 := Aside0.mk hST2; clear hN2 hST2
              have q0 := (blk_cell KA.out 0).trans rfl; have q1 := (blk_cell KA.out 1).trans rfl
              gi_wp2_with fail
              refine ⟨trivial, ?_⟩; gi_at_call 29
              refine (callsIn_wide.2 (bitset_Next.calls kn2 (n : Nat) _ _ ws ((t : Nat) + 1) fr2 _ (Kd.C_below HC.out HB.out) hc0 (tz_at HG.out HB.out) (by have := HN2.out; push_cast at this; exact this))).mono ?_
              rintro e_ w12 ⟨rfl, hb⟩
              have hI2 := Aside0.mk (IsBuilder.below HI.out hb); have kA2 := Aside0.mk (blk_below KA.out hb); have hB2 := Aside0.mk (below_step HB.out hb)
              clear HI KA HB hb; have HI := hI2; have KA := kA2; have HB := hB2; clear hI2 kA2 hB2
              clear q0 q1
              gi_wp2_with fail
              have HS2 := Aside0.mk (show Psl p n (t + 1) (bt ++ [if c = true then 44 else 58] ++ dd f ++ 45 :: dd t) fr2 44 from ⟨true, HST2.out, rfl⟩)
              first | refine ⟨⟨t + 1, _, fr2, 44, _, _, _, _, _, _, _, _, _, _, _, _, _, _, _, _, _, _, _, _, _, _, _, _, _, _, _, _, _, _, _, _, _, _, rfl, HS2, HI, KA, HB⟩, ?_⟩ | refine ⟨⟨_, fr2, 44, ⟨rfl, rfl⟩, HS2, HI⟩, ?_⟩
              exact HST2.out.dec hfn (by omega)
            · have hd2 : decide ((t : Int) > (f : Int)) = false := decide_eq_false (by omega)
              obtain ⟨fr2, kn2, hN2, hST2⟩ := Pst.next_ hn hIs (HST.out.more hn hpf hno hft htn hall hend (bt2 := _) (by rw [if_neg hlt, List.append_nil]))
              have HN2 := Aside0.mk hN2; have HST2 := Aside0.mk hST2; clear hN2 hST2
              have q0 := (blk_cell KA.out 0).trans rfl; have q1 := (blk_cell KA.out 1).trans rfl
              gi_wp2_with fail
              refine ⟨trivial, ?_⟩; gi_at_call 29
              refine (callsIn_wide.2 (bitset_Next.calls kn2 (n : Nat) _ _ ws ((t : Nat) + 1) fr2 _ (Kd.C_below HC.out HB.out) hc0 (tz_at HG.out HB.out) (by have := HN2.out; push_cast at this; exact this))).mono ?_
              rintro e_ w10 ⟨rfl, hb⟩
              have hI2 := Aside0.mk (IsBuilder.below HI.out hb); have kA2 := Aside0.mk (blk_below KA.out hb); have hB2 := Aside0.mk (below_step HB.out hb)
              clear HI KA HB hb; have HI := hI2; have KA := kA2; have HB := hB2; clear hI2 kA2 hB2
              clear q0 q1
              gi_wp2_with fail
              have HS2 := Aside0.mk (show Psl p n (t + 1) (bt ++ [if c = true then 44 else 58] ++ dd f) fr2 44 from ⟨true, HST2.out, rfl⟩)
              first | refine ⟨⟨t + 1, _, fr2, 44, _, _, _, _, _, _, _, _, _, _, _, _, _, _, _, _, _, _, _, _, _, _, _, _, _, _, _, _, _, _, _, _, _, _, rfl, HS2, HI, KA, HB⟩, ?_⟩ | refine ⟨⟨_, fr2, 44, ⟨rfl, rfl⟩, HS2, HI⟩, ?_⟩
              exact HST2.out.dec hfn (by omega)
        · skip
          have q0 := (blk_cell KA.out 0).trans rfl; have q1 := (blk_cell KA.out 1).trans rfl
          gi_wp2_with fail
          refine ⟨trivial, ?_⟩; gi_at_call 71
          refine (callsIn_wide.2 (bitset_within.calls (n : Nat) _ _ ws ((t : Nat) + 1) false _ (Kd.C_below HC.out HB.out) hc0 (within_no ws (.inr (by omega))))).mono ?_
          rintro e_ w5 ⟨rfl, hb⟩
          have hI2 := Aside0.mk (IsBuilder.below HI.out hb); have kA2 := Aside0.mk (blk_below KA.out hb); have hB2 := Aside0.mk (below_step HB.out hb)
          clear HI KA HB hb; have HI := hI2; have KA := kA2; have HB := hB2; clear hI2 kA2 hB2
          clear q0 q1
          gi_wp2_with fail
          refine ⟨trivial, ?_⟩
          have hend : t + 1 = n ∨ p (t + 1) = false := .inl (by omega)
          gi_wp2_with fail
          refine ⟨trivial, ?_⟩; gi_at_call 102
          refine (callsIn_wide.2 (writeByte _ _ _ _ _ HI.out (by rw [bytes_len]; omega) HI.out.size_le)).mono ?_
          rintro e_ w6 ⟨rfl, h1_, hb⟩
          have hI2 := Aside0.mk (show Lib.IsBuilder BT U8 w1.heap.size w1.heap.size (Lib.byteCells (bt ++ [if c = true then 44 else 58])) w6 from .inr (by rw [← bytes_app]; first | exact h1_ | (rw [HLD.out] at h1_; exact h1_))); have kA2 := Aside0.mk ((hb.block _ hlt1).trans KA.out); have hB2 := Aside0.mk (below_more HB.out hb (Nat.le_of_lt hlt1))
          clear HI KA HB hb h1_; have HI := hI2; have KA := kA2; have HB := hB2; clear hI2 kA2 hB2
          gi_wp2_with fail
          refine ⟨trivial, ?_⟩; gi_at_call 101
          refine (callsIn_wide.2 (itoa_calls f (by omega) _ (pw_at HP.out HB.out))).mono ?_
          rintro e_ w7 ⟨rfl, hb⟩
          have hI2 := Aside0.mk (IsBuilder.below HI.out hb); have kA2 := Aside0.mk (blk_below KA.out hb); have hB2 := Aside0.mk (below_step HB.out hb)
          clear HI KA HB hb; have HI := hI2; have KA := kA2; have HB := hB2; clear hI2 kA2 hB2
          have hdf : (Lib.decDigits f).length ≤ 4 := dd_le (u := f) (by omega); have hdt : (Lib.decDigits t).length ≤ 4 := dd_le (u := t) (by omega); have hdf2 : (dd f).length ≤ 4 := hdf; have hdt2 : (dd t).length ≤ 4 := hdt
          gi_wp2_with fail
          refine ⟨trivial, ?_⟩; gi_at_call 100
          refine (callsIn_wide.2 (writeString _ _ _ _ _ HI.out (by rw [bytes_len, str_size, List.length_append]; simp; omega) HI.out.size_le)).mono ?_
          rintro e_ w8 ⟨rfl, h1_, hb⟩
          have hI2 := Aside0.mk (show Lib.IsBuilder BT U8 w1.heap.size w1.heap.size (Lib.byteCells (bt ++ [if c = true then 44 else 58] ++ dd f)) w8 from .inr (by rw [← bytes_app]; first | exact h1_ | (rw [HLD.out] at h1_; exact h1_))); have kA2 := Aside0.mk ((hb.block _ hlt1).trans KA.out); have hB2 := Aside0.mk (below_more HB.out hb (Nat.le_of_lt hlt1))
          clear HI KA HB hb h1_; have HI := hI2; have KA := kA2; have HB := hB2; clear hI2 kA2 hB2
          by_cases hlt : f < t
          · have hd2 : decide ((t : Int) > (f : Int)) = true := decide_eq_true (by omega)
            gi_wp2_with fail
            refine ⟨trivial, ?_⟩; gi_at_call 101
            refine (callsIn_wide.2 (itoa_calls t (by omega) _ (pw_at HP.out HB.out))).mono ?_
            rintro e_ w9 ⟨rfl, hb⟩
            have hI2 := Aside0.mk (IsBuilder.below HI.out hb); have kA2 := Aside0.mk (blk_below KA.out hb); have hB2 := Aside0.mk (below_step HB.out hb)
            clear HI KA HB hb; have HI := hI2; have KA := kA2; have HB := hB2; clear hI2 kA2 hB2
            gi_wp2_with fail
            refine ⟨trivial, ?_⟩; gi_at_call 100
            refine (callsIn_wide.2 (writeString _ _ _ _ _ HI.out (by rw [bytes_len, str_size, List.length_append, List.length_append]; simp; omega) HI.out.size_le)).mono ?_
            rintro e_ w10 ⟨rfl, h1_, hb⟩
            have hI2 := Aside0.mk (show Lib.IsBuilder BT U8 w1.heap.size w1.heap.size (Lib.byteCells (bt ++ [if c = true then 44 else 58] ++ dd f ++ 45 :: dd t)) w10 from .inr (by rw [← bytes_app]; first | exact h1_ | (rw [HLD.out] at h1_; exact h1_))); have kA2 := Aside0.mk ((hb.block _ hlt1).trans KA.out); have hB2 := Aside0.mk (below_more HB.out hb (Nat.le_of_lt hlt1))
            clear HI KA HB hb h1_; have HI := hI2; have KA := kA2; have HB := hB2; clear hI2 kA2 hB2
            obtain ⟨fr2, kn2, hN2, hST2⟩ := Pst.next_ hn hIs (HST.out.more hn hpf hno hft htn hall hend (bt2 := _) (by rw [if_pos hlt]))
            have HN2 := Aside0.mk hN2; have HST2 := Aside0.mk hST2; clear hN2 hST2
            have q0 := (blk_cell KA.out 0).trans rfl; have q1 := (blk_cell KA.out 1).trans rfl
            gi_wp2_with fail
            refine ⟨trivial, ?_⟩; gi_at_call 29
            refine (callsIn_wide.2 (bitset_Next.calls kn2 (n : Nat) _ _ ws ((t : Nat) + 1) fr2 _ (Kd.C_below HC.out HB.out) hc0 (tz_at HG.out HB.out) (by have := HN2.out; push_cast at this; exact this))).mono ?_
            rintro e_ w11 ⟨rfl, hb⟩
            have hI2 := Aside0.mk (IsBuilder.below HI.out hb); have kA2 := Aside0.mk (blk_below KA.out hb); have hB2 := Aside0.mk (below_step HB.out hb)
            clear HI KA HB hb; have HI := hI2; have KA := kA2; have HB := hB2; clear hI2 kA2 hB2
            clear q0 q1
            gi_wp2_with fail
            have HS2 := Aside0.mk (show Psl p n (t + 1) (bt ++ [if c = true then 44 else 58] ++ dd f ++ 45 :: dd t) fr2 44 from ⟨true, HST2.out, rfl⟩)
            first | refine ⟨⟨t + 1, _, fr2, 44, _, _, _, _, _, _, _, _, _, _, _, _, _, _, _, _, _, _, _, _, _, _, _, _, _, _, _, _, _, _, _, _, _, _, rfl, HS2, HI, KA, HB⟩, ?_⟩ | refine ⟨⟨_, fr2, 44, ⟨rfl, rfl⟩, HS2, HI⟩, ?_⟩
            exact HST2.out.dec hfn (by omega)
          · have hd2 : decide ((t : Int) > (f : Int)) = false := decide_eq_false (by omega)
            obtain ⟨fr2, kn2, hN2, hST2⟩ := Pst.next_ hn hIs (HST.out.more hn hpf hno hft htn hall hend (bt2 := _) (by rw [if_neg hlt, List.append_nil]))
            have HN2 := Aside0.mk hN2; have HST2 := Aside0.mk hST2; clear hN2 hST2
            have q0 := (blk_cell KA.out 0).trans rfl; have q1 := (blk_cell KA.out 1).trans rfl
            gi_wp2_with fail
            refine ⟨trivial, ?_⟩; gi_at_call 29
            refine (callsIn_wide.2 (bitset_Next.calls kn2 (n : Nat) _ _ ws ((t : Nat) + 1) fr2 _ (Kd.C_below HC.out HB.out) hc0 (tz_at HG.out HB.out) (by have := HN2.out; push_cast at this; exact this))).mono ?_
            rintro e_ w9 ⟨rfl, hb⟩
            have hI2 := Aside0.mk (IsBuilder.below HI.out hb); have kA2 := Aside0.mk (blk_below KA.out hb); have hB2 := Aside0.mk (below_step HB.out hb)
            clear HI KA HB hb; have HI := hI2; have KA := kA2; have HB := hB2; clear hI2 kA2 hB2
            clear q0 q1
            gi_wp2_with fail
            have HS2 := Aside0.mk (show Psl p n (t + 1) (bt ++ [if c = true then 44 else 58] ++ dd f) fr2 44 from ⟨true, HST2.out, rfl⟩)
            first | refine ⟨⟨t + 1, _, fr2, 44, _, _, _, _, _, _, _, _, _, _, _, _, _, _, _, _, _, _, _, _, _, _, _, _, _, _, _, _, _, _, _, _, _, _, rfl, HS2, HI, KA, HB⟩, ?_⟩ | refine ⟨⟨_, fr2, 44, ⟨rfl, rfl⟩, HS2, HI⟩, ?_⟩
            exact HST2.out.dec hfn (by omega)
end Go.Proofs.YtjmkhdhffmlhiaaDoor.PAll
end
section
namespace Go.Proofs.YtjmkhdhffmlhiaaDoor.PAll
open Go.RowKit Go.Proofs.YtjmkhdhffmlhiaaDoorW.PrintWords Go.Proofs.YtjmkhdhffmlhiaaDoorW.PrintLast Go.Proofs.YtjmkhdhffmlhiaaDoorW.PrintMore
attribute [local go_sem] max2_int min2_int max_two min_two max_three min_three max_four min_four w64_u8 w64_mod256   -- for this text's walks alone
set_option linter.unusedVariables false
set_option linter.unusedSimpArgs false
end Go.Proofs.YtjmkhdhffmlhiaaDoor.PAll
end
section
namespace Go.Proofs.YtjmkhdhffmlhiaaDoor.PAll
open Go.RowKit Go.Proofs.YtjmkhdhffmlhiaaDoorW.PrintWords Go.Proofs.YtjmkhdhffmlhiaaDoorW.PrintLast Go.Proofs.YtjmkhdhffmlhiaaDoorW.PrintMore
theorem cut_hm (t e : TypeId) {i : TypeInfo} (ht : Tryd.prog.underlying t = some (.slice e)) (hi : Tryd.prog.info? e = some i) (g n cap m : Nat) (hm : m ≤ cap) :
    ∀ W : World, (Instr.slice t (.slice (some ⟨g, 0, none⟩) n cap) none (some (.int .i64 (m : Int))) (some (.int .i64 (m : Int)))).run Tryd.prog W = .ok (.slice (some ⟨g, 0, none⟩) m m) W := by
  intro W
  have hel : Tryd.prog.elem t = e := by simp [Program.elem, ht]
  have hu : Tryd.prog.underlying t = some (.slice (Tryd.prog.elem t)) := by rw [hel]; exact ht
  rw [run_slice_hm W t (some ⟨g, 0, none⟩) n cap hu .i64 .i64 (m : Int) (m : Int) (by omega) (by omega) (by omega), hel]
  simp [sizeOf, typeInfo, hi, sliced, Result.andThen, Addr.add]
end Go.Proofs.YtjmkhdhffmlhiaaDoor.PAll
end
section
namespace Go.Proofs.YtjmkhdhffmlhiaaDoor.PAll
open Go.RowKit Go.Proofs.YtjmkhdhffmlhiaaDoorW.PrintWords Go.Proofs.YtjmkhdhffmlhiaaDoorW.PrintLast Go.Proofs.YtjmkhdhffmlhiaaDoorW.PrintMore
theorem two_blocks {w w1 : World} {o1 o2 : Obj} (hg : ((w.alloc o1).alloc o2).grownBy w1 (Value.slice none 0 0).ownBlock) : w1.heap[w.heap.size]? = some o1 ∧ w1.heap[w.heap.size + 1]? = some o2 := by
  have e1 := blk_alloc (blk_new w o1) o2
  have e2 : ((w.alloc o1).alloc o2).heap[w.heap.size + 1]? = some o2 := by
    have := blk_new (w.alloc o1) o2
    simpa using this
  exact ⟨(hg.block _ (by simp; omega) (by simp [Value.ownBlock])).trans e1, (hg.block _ (by simp) (by simp [Value.ownBlock])).trans e2⟩
def theMark : Int := 8608480567731124087
theorem mark_ys {m : Int} {l ys : List Int} (h : ys = l ++ [m]) (hm : theMark = m) : l ++ [8608480567731124087] = ys := by rw [h, ← hm]; rfl
theorem pos_ys {m : Int} {l ys : List Int} (h : ys = l ++ [m]) : 0 < ys.length := by rw [h]; simp
theorem R_not_blk {W : World} {base g : Nat} {ok : Nat → Prop} {v : Value} {xs : List Int} {cs : Array Value} (h : Kd.R (Kd.int .u64) 87 W base ok v xs) (hb : W.heap[g]? = some (.cells cs 24 (0, 0))) (e : some g = v.ownBlock) : False :=
  Kd.R_ne h hb (by decide) e
set_option maxHeartbeats 4000000 in
set_option maxRecDepth 100000 in
theorem twin_marked (n0 : Int) (A0 : Option Addr) (c0 : Nat) (l0 : List Int) (w : World) (hr0 : Kd.C (Kd.int .u64) w A0 l0.length l0) (hc0 : l0.length ≤ c0) (hn : l0.length * 8 ≤ 140737488351232) :
    Calls Tryd.prog 14 #[.agg #[.int .i64 n0, .slice A0 l0.length c0]] w fun e w' => ∃ g cap : Nat, e = .returned (.agg #[.int .i64 n0, .slice (some ⟨g, 0, none⟩) l0.length cap]) ∧ Kd.R (Kd.int .u64) 87 w' w.heap.size (fun _ => True) (.slice (some ⟨g, 0, none⟩) (l0 ++ [theMark]).length cap) (l0 ++ [theMark]) ∧ Below w.heap.size w w' := by
  have hu26 := Tryd.underlying24
  have HR0 := Aside0.mk hr0
  have HC0 := Aside0.mk hc0
  clear hr0 hc0
  have hn1 : l0.length + 1 ≤ 17592186044416 := by omega
  obtain ⟨ys, hys⟩ : ∃ ys, ys = l0 ++ [theMark] := ⟨_, rfl⟩
  have hyl : l0.length ≤ ys.length := by rw [hys]; simp
  have HY := Aside0.mk hys
  rw [← hys]
  clear hys
  obtain ⟨m, hm⟩ : ∃ m, theMark = m := ⟨_, rfl⟩
  rw [hm] at HY
  go_enter Tryd.func14, Tryd.ntmps14
  go_wp2_with (first
    | ((with_reducible refine gate_builtin (b := .append) (xs := #[.tmp 4, .tmp 6]) rfl ?_); at_builtin
       refine Kd.R_append_rows (Kd.int .u64) (w0 := w) w.heap.size rfl (.tmp 4) (.tmp 6) 22 87 (.int .u64 0) 8 rfl Tryd.underlying22 info87 rfl (by decide) (by omega) (.slice none 0 0) ([] : List Int) l0 _ _ _ (fun _ => True) (fun _ => False) rfl rfl ?aO ?aR (fun _ _ h => h) (fun _ h => h.elim) ?aF ?aB ?aS ?aL ?_
       (case aR => exact Kd.C_alloc (Kd.C_alloc HR0.out _) _)
       (case aB => exact below_alloc (below_alloc (Below.refl _ _) _) _)
       (case aF => exact (fun _ _ => trivial))
       (case aO => exact (Kd.R_nil _ _ _ _ (fun _ => True)))
       (case aS => exact (below_alloc (below_alloc (Below.refl _ _) _) _).size)
       (case aL => simp only [List.length_nil]; omega)
       intro v1 w1 ho hb hg hat
       rw [List.nil_append] at ho
       have HO := Aside0.mk ho
       have HB := Aside0.mk hb
       obtain ⟨b1, b2⟩ := two_blocks hg
       have B1 := Aside0.mk b1
       have B2 := Aside0.mk b2
       clear ho hb hg hat b1 b2)
    | ((with_reducible refine gate_builtin (b := .append) (xs := #[.tmp 8, .tmp 9]) rfl ?_); at_builtin
       refine Kd.R_append (Kd.int .u64) (w0 := w) w.heap.size rfl (.tmp 8) (.tmp 9) 22 87 (.int .u64 0) 8 rfl Tryd.underlying22 info87 rfl (by decide) (by omega) v1 l0 8608480567731124087 [.int .u64 8608480567731124087] (fun _ => True) (fun _ => False) rfl rfl ?aP (fun _ hk => hk.elim) ?aF ?aO ?aB ?aS ?aL ?_
       (case aP => exact rfl)
       (case aF => exact (fun _ _ => trivial))
       (case aO => exact HO.out)
       (case aB => exact HB.out)
       (case aS => exact HB.out.size)
       (case aL => omega)
       intro v2 w2 ho hb hg hat
       have e9 := mark_ys HY.out hm
       rw [e9] at ho
       obtain ⟨g, cap, eg, hgb, hgl, cells, hcells⟩ := Kd.R_form ho (pos_ys HY.out)
       have b1 := (hg.block w.heap.size (blk_lt B1.out) (fun e => R_not_blk HO.out B1.out e)).trans B1.out
       have b2 := (hg.block (w.heap.size + 1) (blk_lt B2.out) (fun e => R_not_blk HO.out B2.out e)).trans B2.out
       subst eg
       obtain ⟨i0, hi0, _, _, _⟩ := info_parts info87
       have hcut := cut_to (P := Tryd.prog) 22 87 .i64 Tryd.underlying22 hi0 (some ⟨g, 0, none⟩) ys.length cap (l0.length : Int) (by omega) (by omega) (Kd.R_reads' ho).2.1
       rw [Int.toNat_natCast] at hcut
       have HO2 := Aside0.mk ho
       have HB2 := Aside0.mk hb
       have BB1 := Aside0.mk b1
       have BB2 := Aside0.mk b2
       have q0 := cell_of_row w2 w.heap.size 0 _ _ _ b1
       have q1 := cell_of_row w2 w.heap.size 1 _ _ _ b1
       have f0 := blk_frozen b2 0
       have f1 := blk_frozen b2 1
       have g0 := cell_of_row w2 (w.heap.size + 1) 0 _ _ _ b2
       have g1 := cell_of_row w2 (w.heap.size + 1) 1 _ _ _ b2
       simp only [List.getElem?_toArray, List.getElem?_cons_zero, List.getElem?_cons_succ] at q0 q1 g0 g1
       clear hi0 ho hb hg hat e9 hcells hgb hgl b1 b2))
  go_still_tail 8, (by kernel_rfl)
  go_wp2
  refine bodyPost_ret (results_cell_row rfl _ _ (w.heap.size + 1) 24 #[.int .i64 n0, .slice (some ⟨g, 0, none⟩) l0.length cap] (0, 0) _ rfl ?_ Tryd.underlying24 rfl (by kernel_rfl)) rfl ?_
  · refine blk_put (cs := #[.int .i64 n0, .slice none 0 0]) ?_ 1 _ rfl
    refine blk_put (cs := #[.int .i64 0, .slice none 0 0]) ?_ 0 _ rfl
    exact BB2.out
  · refine ⟨g, cap, rfl, ?_, ?_⟩
    · exact Kd.R_mono (Kd.R_far (p := ⟨w.heap.size + 1, 1, none⟩) (Kd.R_far (p := ⟨w.heap.size + 1, 0, none⟩) (Kd.R_drew (Kd.R_types HO2.out BB2.out (by decide))) (fun _ hk => hk.2) _) (fun _ hk => hk.2) _) (fun _ hk => trivial)
    · exact ((below_drew HB2.out).setCell (by simp) _).setCell (by simp) _
end Go.Proofs.YtjmkhdhffmlhiaaDoor.PAll
end
section
namespace Go.Proofs.YtjmkhdhffmlhiaaDoor.PAll
open Go.RowKit Go.Proofs.YtjmkhdhffmlhiaaDoorW.PrintWords Go.Proofs.YtjmkhdhffmlhiaaDoorW.PrintLast Go.Proofs.YtjmkhdhffmlhiaaDoorW.PrintMore
set_option maxHeartbeats 4000000 in
set_option maxRecDepth 100000 in
theorem kept_marked (n0 : Int) (g cap : Nat) (l0 : List Int) (A1 : Option Addr) (c1 : Nat) (w : World) (ht : Kd.C (Kd.int .u64) w (some ⟨g, 0, none⟩) (l0 ++ [theMark]).length (l0 ++ [theMark])) (hcap : (l0 ++ [theMark]).length ≤ cap) (hr1 : Kd.C (Kd.int .u64) w A1 l0.length l0) (hc1 : l0.length ≤ c1) :
    Calls Tryd.prog 22 #[.agg #[.int .i64 n0, .slice (some ⟨g, 0, none⟩) l0.length cap], .agg #[.int .i64 n0, .slice A1 l0.length c1]] w fun e w' => e = .returned (.bool true) ∧ Below w.heap.size w w' := by
  have hlen : (l0 ++ [theMark]).length = l0.length + 1 := by simp
  rw [hlen] at ht hcap
  have hb := ht.2.1
  obtain ⟨k, hk⟩ := same_sets n0 l0 (by omega)
  have h1 : Kd.C (Kd.int .u64) w (some ⟨g, 0, none⟩) l0.length l0 := by
    have ht2 := ht
    rw [← hlen] at ht2
    have h := Kd.C_take (m := l0.length) ht2 (by omega)
    simpa using h
  have HT := Aside0.mk h1
  have HM := Aside0.mk ht
  have HR := Aside0.mk hr1
  have HK := Aside0.mk hk
  clear ht h1 hr1 hk hlen
  have HB := Aside0.mk (Below.refl w.heap.size w)
  obtain ⟨i0, hi0, _, _, _⟩ := info_parts info87
  have hcut := cut_hm 22 87 Tryd.underlying22 hi0 g l0.length cap (l0.length + 1) hcap
  simp only [Int.natCast_add, Int.cast_ofNat_Int] at hcut
  clear hi0
  go_enter Tryd.func22, Tryd.ntmps22
  go_upto_region 1 with (first | ((with_reducible refine gate_dst (N := 2) rfl ?_); (try (refine gate_guard (by rfl) ?_; dsimp only)); refine box_event ?hg (N := 2) ?hd (cs := #[.int .i64 n0, .slice (some ⟨g, 0, none⟩) l0.length cap]) (t := 24) ?hr ?_; (case hd => rfl); (case hg => rfl); (case hr => first | (go_simp; done) | (go_simp; rfl)); intro gb101 hg w4 hbox hb; have n0_ := Aside0.mk (below_step (by repeat (first | (with_reducible first | exact HB.out | apply below_alloc | apply pw_below_drewN | apply below_drew1) | exact HB.out)) hb); have n1_ := Aside0.mk (hbox); have n2_ := Aside0.mk ((by rw [hg]; exact (below_size (by repeat (first | (with_reducible first | exact HB.out | apply below_alloc | apply pw_below_drewN | apply below_drew1) | exact HB.out))) : w.heap.size ≤ gb101)); have n3_ := Aside0.mk ((by rw [hg]; exact (below_size (by repeat (first | (with_reducible first | exact HB.out | apply below_alloc | apply pw_below_drewN | apply below_drew1) | exact HB.out))) : w.heap.size ≤ gb101)); clear HB; have HB := n0_; have BK101 := n1_; have GW101 := n2_; have GE101 := n3_; clear n0_ n1_ n2_ n3_; clear hb hbox hg) | ((with_reducible refine gate_dst (N := 3) rfl ?_); (try (refine gate_guard (by rfl) ?_; dsimp only)); refine box_event ?hg (N := 3) ?hd (cs := #[.int .i64 n0, .slice A1 l0.length c1]) (t := 24) ?hr ?_; (case hd => rfl); (case hg => rfl); (case hr => first | (go_simp; done) | (go_simp; rfl)); intro gb102 hg w5 hbox hb; have n0_ := Aside0.mk (blk_below (g := gb101) (o := .cells #[.int .i64 n0, .slice (some ⟨g, 0, none⟩) l0.length cap] 24 (0, 0)) (by (with_reducible repeat (first | refine blk_drewN ?_ _ | refine blk_drew ?_ | refine blk_alloc ?_ _)); exact BK101.out) hb); have n1_ := Aside0.mk (below_step (by repeat (first | (with_reducible first | exact HB.out | apply below_alloc | apply pw_below_drewN | apply below_drew1 | refine below_set ?_ GE101.out) | exact HB.out)) hb); have n2_ := Aside0.mk (hbox); have n3_ := Aside0.mk ((by rw [hg]; exact (below_size (by repeat (first | (with_reducible first | exact HB.out | apply below_alloc | apply pw_below_drewN | apply below_drew1 | refine below_set ?_ GE101.out) | exact HB.out))) : w.heap.size ≤ gb102)); have n4_ := Aside0.mk ((by rw [hg]; exact (below_size (by repeat (first | (with_reducible first | exact HB.out | apply below_alloc | apply pw_below_drewN | apply below_drew1 | refine below_set ?_ GE101.out) | exact HB.out))) : w.heap.size ≤ gb102)); have n5_ := Aside0.mk ((by rw [hg]; exact Nat.ne_of_lt (blk_lt (g := gb101) (o := .cells #[.int .i64 n0, .slice (some ⟨g, 0, none⟩) l0.length cap] 24 (0, 0)) (by (with_reducible repeat (first | refine blk_drewN ?_ _ | refine blk_drew ?_ | refine blk_alloc ?_ _)); exact BK101.out)) : gb101 ≠ gb102)); have n6_ := Aside0.mk ((by rw [hg]; exact Nat.ne_of_gt (blk_lt (g := gb101) (o := .cells #[.int .i64 n0, .slice (some ⟨g, 0, none⟩) l0.length cap] 24 (0, 0)) (by (with_reducible repeat (first | refine blk_drewN ?_ _ | refine blk_drew ?_ | refine blk_alloc ?_ _)); exact BK101.out)) : gb102 ≠ gb101)); clear BK101; clear HB; have BK101 := n0_; have HB := n1_; have BK102 := n2_; have GW102 := n3_; have GE102 := n4_; have NB101_102 := n5_; have NB102_101 := n6_; clear n0_ n1_ n2_ n3_ n4_ n5_ n6_; clear hb hbox hg))
  repeat (go_quiet (first | ((with_reducible refine gate_dst (N := 2) rfl ?_); (try (refine gate_guard (by rfl) ?_; dsimp only)); refine box_event ?hg (N := 2) ?hd (cs := #[.int .i64 n0, .slice (some ⟨g, 0, none⟩) l0.length cap]) (t := 24) ?hr ?_; (case hd => rfl); (case hg => rfl); (case hr => first | (go_simp; done) | (go_simp; rfl)); intro gb101 hg w4 hbox hb; have n0_ := Aside0.mk (below_step (by repeat (first | (with_reducible first | exact HB.out | apply below_alloc | apply pw_below_drewN | apply below_drew1) | exact HB.out)) hb); have n1_ := Aside0.mk (hbox); have n2_ := Aside0.mk ((by rw [hg]; exact (below_size (by repeat (first | (with_reducible first | exact HB.out | apply below_alloc | apply pw_below_drewN | apply below_drew1) | exact HB.out))) : w.heap.size ≤ gb101)); have n3_ := Aside0.mk ((by rw [hg]; exact (below_size (by repeat (first | (with_reducible first | exact HB.out | apply below_alloc | apply pw_below_drewN | apply below_drew1) | exact HB.out))) : w.heap.size ≤ gb101)); clear HB; have HB := n0_; have BK101 := n1_; have GW101 := n2_; have GE101 := n3_; clear n0_ n1_ n2_ n3_; clear hb hbox hg) | ((with_reducible refine gate_dst (N := 3) rfl ?_); (try (refine gate_guard (by rfl) ?_; dsimp only)); refine box_event ?hg (N := 3) ?hd (cs := #[.int .i64 n0, .slice A1 l0.length c1]) (t := 24) ?hr ?_; (case hd => rfl); (case hg => rfl); (case hr => first | (go_simp; done) | (go_simp; rfl)); intro gb102 hg w5 hbox hb; have n0_ := Aside0.mk (blk_below (g := gb101) (o := .cells #[.int .i64 n0, .slice (some ⟨g, 0, none⟩) l0.length cap] 24 (0, 0)) (by (with_reducible repeat (first | refine blk_drewN ?_ _ | refine blk_drew ?_ | refine blk_alloc ?_ _)); exact BK101.out) hb); have n1_ := Aside0.mk (below_step (by repeat (first | (with_reducible first | exact HB.out | apply below_alloc | apply pw_below_drewN | apply below_drew1 | refine below_set ?_ GE101.out) | exact HB.out)) hb); have n2_ := Aside0.mk (hbox); have n3_ := Aside0.mk ((by rw [hg]; exact (below_size (by repeat (first | (with_reducible first | exact HB.out | apply below_alloc | apply pw_below_drewN | apply below_drew1 | refine below_set ?_ GE101.out) | exact HB.out))) : w.heap.size ≤ gb102)); have n4_ := Aside0.mk ((by rw [hg]; exact (below_size (by repeat (first | (with_reducible first | exact HB.out | apply below_alloc | apply pw_below_drewN | apply below_drew1 | refine below_set ?_ GE101.out) | exact HB.out))) : w.heap.size ≤ gb102)); have n5_ := Aside0.mk ((by rw [hg]; exact Nat.ne_of_lt (blk_lt (g := gb101) (o := .cells #[.int .i64 n0, .slice (some ⟨g, 0, none⟩) l0.length cap] 24 (0, 0)) (by (with_reducible repeat (first | refine blk_drewN ?_ _ | refine blk_drew ?_ | refine blk_alloc ?_ _)); exact BK101.out)) : gb101 ≠ gb102)); have n6_ := Aside0.mk ((by rw [hg]; exact Nat.ne_of_gt (blk_lt (g := gb101) (o := .cells #[.int .i64 n0, .slice (some ⟨g, 0, none⟩) l0.length cap] 24 (0, 0)) (by (with_reducible repeat (first | refine blk_drewN ?_ _ | refine blk_drew ?_ | refine blk_alloc ?_ _)); exact BK101.out)) : gb102 ≠ gb101)); clear BK101; clear HB; have BK101 := n0_; have HB := n1_; have BK102 := n2_; have GW102 := n3_; have GE102 := n4_; have NB101_102 := n5_; have NB102_101 := n6_; clear n0_ n1_ n2_ n3_ n4_ n5_ n6_; clear hb hbox hg)); go_upto_region 1 with (first | ((with_reducible refine gate_dst (N := 2) rfl ?_); (try (refine gate_guard (by rfl) ?_; dsimp only)); refine box_event ?hg (N := 2) ?hd (cs := #[.int .i64 n0, .slice (some ⟨g, 0, none⟩) l0.length cap]) (t := 24) ?hr ?_; (case hd => rfl); (case hg => rfl); (case hr => first | (go_simp; done) | (go_simp; rfl)); intro gb101 hg w4 hbox hb; have n0_ := Aside0.mk (below_step (by repeat (first | (with_reducible first | exact HB.out | apply below_alloc | apply pw_below_drewN | apply below_drew1) | exact HB.out)) hb); have n1_ := Aside0.mk (hbox); have n2_ := Aside0.mk ((by rw [hg]; exact (below_size (by repeat (first | (with_reducible first | exact HB.out | apply below_alloc | apply pw_below_drewN | apply below_drew1) | exact HB.out))) : w.heap.size ≤ gb101)); have n3_ := Aside0.mk ((by rw [hg]; exact (below_size (by repeat (first | (with_reducible first | exact HB.out | apply below_alloc | apply pw_below_drewN | apply below_drew1) | exact HB.out))) : w.heap.size ≤ gb101)); clear HB; have HB := n0_; have BK101 := n1_; have GW101 := n2_; have GE101 := n3_; clear n0_ n1_ n2_ n3_; clear hb hbox hg) | ((with_reducible refine gate_dst (N := 3) rfl ?_); (try (refine gate_guard (by rfl) ?_; dsimp only)); refine box_event ?hg (N := 3) ?hd (cs := #[.int .i64 n0, .slice A1 l0.length c1]) (t := 24) ?hr ?_; (case hd => rfl); (case hg => rfl); (case hr => first | (go_simp; done) | (go_simp; rfl)); intro gb102 hg w5 hbox hb; have n0_ := Aside0.mk (blk_below (g := gb101) (o := .cells #[.int .i64 n0, .slice (some ⟨g, 0, none⟩) l0.length cap] 24 (0, 0)) (by (with_reducible repeat (first | refine blk_drewN ?_ _ | refine blk_drew ?_ | refine blk_alloc ?_ _)); exact BK101.out) hb); have n1_ := Aside0.mk (below_step (by repeat (first | (with_reducible first | exact HB.out | apply below_alloc | apply pw_below_drewN | apply below_drew1 | refine below_set ?_ GE101.out) | exact HB.out)) hb); have n2_ := Aside0.mk (hbox); have n3_ := Aside0.mk ((by rw [hg]; exact (below_size (by repeat (first | (with_reducible first | exact HB.out | apply below_alloc | apply pw_below_drewN | apply below_drew1 | refine below_set ?_ GE101.out) | exact HB.out))) : w.heap.size ≤ gb102)); have n4_ := Aside0.mk ((by rw [hg]; exact (below_size (by repeat (first | (with_reducible first | exact HB.out | apply below_alloc | apply pw_below_drewN | apply below_drew1 | refine below_set ?_ GE101.out) | exact HB.out))) : w.heap.size ≤ gb102)); have n5_ := Aside0.mk ((by rw [hg]; exact Nat.ne_of_lt (blk_lt (g := gb101) (o := .cells #[.int .i64 n0, .slice (some ⟨g, 0, none⟩) l0.length cap] 24 (0, 0)) (by (with_reducible repeat (first | refine blk_drewN ?_ _ | refine blk_drew ?_ | refine blk_alloc ?_ _)); exact BK101.out)) : gb101 ≠ gb102)); have n6_ := Aside0.mk ((by rw [hg]; exact Nat.ne_of_gt (blk_lt (g := gb101) (o := .cells #[.int .i64 n0, .slice (some ⟨g, 0, none⟩) l0.length cap] 24 (0, 0)) (by (with_reducible repeat (first | refine blk_drewN ?_ _ | refine blk_drew ?_ | refine blk_alloc ?_ _)); exact BK101.out)) : gb102 ≠ gb101)); clear BK101; clear HB; have BK101 := n0_; have HB := n1_; have BK102 := n2_; have GW102 := n3_; have GE102 := n4_; have NB101_102 := n5_; have NB102_101 := n6_; clear n0_ n1_ n2_ n3_ n4_ n5_ n6_; clear hb hbox hg)))
  (try simp only [Act.put, List.setIfInBounds_toArray, List.set_cons_zero, List.set_cons_succ])
  have hcz0_0 : w5.cell? ⟨gb101, 0, none⟩ = some (.int .i64 n0) := (blk_cell BK101.out 0).trans rfl
  have hcz0_1 : w5.cell? ⟨gb101, 1, none⟩ = some (.slice (some ⟨g, 0, none⟩) l0.length cap) := (blk_cell BK101.out 1).trans rfl
  have hfz0_0 := blk_frozen BK101.out 0
  have hfz0_1 := blk_frozen BK101.out 1
  have hcz1_0 : w5.cell? ⟨gb102, 0, none⟩ = some (.int .i64 n0) := (blk_cell BK102.out 0).trans rfl
  have hcz1_1 : w5.cell? ⟨gb102, 1, none⟩ = some (.slice A1 l0.length c1) := (blk_cell BK102.out 1).trans rfl
  have hfz1_0 := blk_frozen BK102.out 0
  have hfz1_1 := blk_frozen BK102.out 1
  go_wp2_with (first
    | ((with_reducible refine gate_callee (f := 20) rfl ?_); refine goesL_ (some 11) rfl rfl Tryd.func20 (by kernel_rfl) rfl #[.agg #[.int .i64 n0, .slice (some ⟨g, 0, none⟩) l0.length cap], .agg #[.int .i64 n0, .slice A1 l0.length c1]] rfl (by (try simp only [List.map_toArray, List.map_cons, List.map_nil]); first | done | rfl) ?_
       (with_reducible refine (slopelaw3_same.calls k n0 _ _ l0 n0 _ _ l0 true _ (Kd.C_below HT.out HB.out) (by omega) (Kd.C_below HR.out HB.out) hc1 HK.out).mono ?_)
       rintro e w' ⟨rfl, hbw⟩
       refine ⟨_, rfl, ?_⟩
       have HB2 := Aside0.mk (below_step HB.out hbw)
       have kb1 := blk_below (g := gb101) BK101.out hbw
       have hcy_1 : w'.cell? ⟨gb101, 1, none⟩ = some (.slice (some ⟨g, 0, none⟩) l0.length cap) := (blk_cell kb1 1).trans rfl
       have hfy_1 := blk_frozen kb1 1
       obtain ⟨ad, ea, hx⟩ := Kd.at_int (Kd.C_below HM.out HB2.out) (l0.length : Int) (by omega) (by omega)
       cases ea
       rw [Int.toNat_natCast, add_plain] at hx
       have hrd : rd (l0 ++ [theMark]) (l0.length : Int) = 8608480567731124087 := by simp [rd, List.getD_eq_getElem?_getD, theMark]
       rw [hrd] at hx
       clear kb1 hbw hrd))
  go_ret
  exact ⟨rfl, HB2.out⟩
end Go.Proofs.YtjmkhdhffmlhiaaDoor.PAll
end
section
namespace Go.Proofs.YtjmkhdhffmlhiaaDoor.PAll
open Go.RowKit Go.Proofs.YtjmkhdhffmlhiaaDoorW.PrintWords Go.Proofs.YtjmkhdhffmlhiaaDoorW.PrintLast Go.Proofs.YtjmkhdhffmlhiaaDoorW.PrintMore
theorem wmarked_reads {W : World} {base g cap : Nat} {ok : Nat → Prop} {l : List Int} {m : Int} (h : Kd.R (Kd.int .u64) 87 W base ok (.slice (some ⟨g, 0, none⟩) (l ++ [m]).length cap) (l ++ [m])) : Kd.C (Kd.int .u64) W (some ⟨g, 0, none⟩) l.length l := by
  have h2 := Kd.C_take (m := l.length) (Kd.R_reads' h).2.2 (by simp)
  simpa using h2
theorem wmarked_fits {W : World} {base g cap : Nat} {ok : Nat → Prop} {l : List Int} {m : Int} (h : Kd.R (Kd.int .u64) 87 W base ok (.slice (some ⟨g, 0, none⟩) (l ++ [m]).length cap) (l ++ [m])) : l.length ≤ cap := by
  have := (Kd.R_reads' h).2.1
  rw [List.length_append] at this
  simp at this
  omega
end Go.Proofs.YtjmkhdhffmlhiaaDoor.PAll
end
section
namespace Go.Proofs.YtjmkhdhffmlhiaaDoor.PAll
set_option linter.unusedVariables false
set_option linter.unusedSimpArgs false
open Go.RowKit Go.Shelf Go.Proofs.YtjmkhdhffmlhiaaDoorW.PrintWords Go.Proofs.YtjmkhdhffmlhiaaDoorW.PrintLast Go.Proofs.YtjmkhdhffmlhiaaDoorW.PrintMore
attribute [local go_sem] Oper.semAt_some
set_option maxHeartbeats 8000000 in
set_option maxRecDepth 100000 in
theorem Print_no (n0 : Int) (A0 : Option Addr) (c0 : Nat) (ws : List Int) (w : World) (hr0 : Kd.C (Kd.int .u64) w A0 ws.length ws) (hc0 : ws.length ≤ c0) (hM : bitset_May.f n0 ws = some false) :
    Calls Tryd.prog 61 #[.agg #[.int .i64 n0, .slice A0 ws.length c0]] w fun e w' => e = .returned (.tuple #[.string (ba []), .int .i64 61]) ∧ Below w.heap.size w w' := by
  have hu24 := Tryd.underlying24
  have HC := Aside0.mk hr0
  have HM := Aside0.mk hM
  clear hr0 hM
  have KA := Aside0.mk (blk_new w (.cells #[.int .i64 n0, .slice A0 ws.length c0] 24 (0, 0)))
  have HB := Aside0.mk (below_alloc (Below.refl w.heap.size w) (.cells #[.int .i64 n0, .slice A0 ws.length c0] 24 (0, 0)))
  refine (callsIn_wide (n := 6)).1 ?_
  refine callsIn_of_wp Tryd.func61 rfl trivial ?_ rfl
  simp only [Tryd.ntmps61, List.size_toArray, List.length_cons, List.length_nil, Nat.reduceAdd, Nat.reduceSub, Array.replicate_succ, Array.replicate_zero, List.push_toArray, List.append_toArray, List.nil_append, List.cons_append]
  have q0 := (blk_cell KA.out 0).trans rfl; have q1 := (blk_cell KA.out 1).trans rfl
  gi_wp2_with fail
  refine ⟨trivial, ?_⟩; gi_at_call 69
  refine (callsIn_wide.2 (bitset_May.calls n0 _ _ ws false _ (Kd.C_below HC.out HB.out) hc0 HM.out)).mono ?_
  rintro e w1 ⟨rfl, hb⟩
  have hBf := below_step HB.out hb
  gi_wp2_with fail
  refine bodyPost_ret (v := .tuple #[.string (ba []), .int .i64 61]) ?_ rfl ⟨rfl, hBf⟩
  simp [results, Tryd.f61, go_sem, ba]
theorem Print_alike (n0 : Int) (l0 : List Int) (hw : Wds l0) (hl : l0.length ≤ 9223372036854775807) : ∃ (r : ByteArray) (e1 : Int), Ev (fun k => sloperef3_Print.f k n0 l0) (r, e1) ∧ (∀ (A0 : Option Addr) (c0 : Nat) (w : World), Kd.C (Kd.int .u64) w A0 l0.length l0 → l0.length ≤ c0 → Tz w → Pw w → Calls Tryd.prog 61 #[.agg #[.int .i64 n0, .slice A0 l0.length c0]] w fun x w' => x = .returned (.tuple #[.string r, .int .i64 e1]) ∧ Below w.heap.size w w') := by
  have hM := May_eq n0 l0 hw hl
  by_cases hm : MayP n0 l0
  · obtain ⟨n, rfl⟩ := Int.eq_ofNat_of_zero_le hm.1
    have hn : n ≤ 4096 := by have := hm.2.1; omega
    have hIs : Is n (hb l0) l0 := hm.is hw
    rw [may_true.2 hm] at hM
    obtain ⟨fr, ⟨kn, hk⟩, h1⟩ := next_ev hn hIs (pos := 0) (Nat.zero_le _)
    refine ⟨ba (txtOf (hb l0) n), 0, refPrint_ev hn hIs, fun A0 c0 w hr0 hc0 hG hP => ?_⟩
    exact Print_yes kn n hn (hb l0) A0 c0 l0 w hr0 hc0 hG hP hIs hM fr (hk kn (Nat.le_refl _)) ⟨Nat.zero_le _, .inl rfl, by simp [txtOf], h1⟩
  · rw [may_false.2 hm] at hM
    exact ⟨ba [], 61, refPrint_no hw hl hm, fun A0 c0 w hr0 hc0 _ _ => Print_no n0 A0 c0 l0 w hr0 hc0 hM⟩
set_option maxHeartbeats 8000000 in
set_option maxRecDepth 100000 in
theorem BitPrints_walk (k2 : Nat) (n0 : Int) (A0 : Option Addr) (c0 : Nat) (l0 : List Int) (w : World) (hr0 : Kd.C (Kd.int .u64) w A0 l0.length l0) (hc0 : l0.length ≤ c0) (hn0 : l0.length * 8 ≤ 140737488351232) (hG : Tz w) (hP : Pw w) (r : ByteArray) (e1 : Int)
    (h1 : ∀ (A0 : Option Addr) (c0 : Nat) (w : World), Kd.C (Kd.int .u64) w A0 l0.length l0 → l0.length ≤ c0 → Tz w → Pw w → Calls Tryd.prog 61 #[.agg #[.int .i64 n0, .slice A0 l0.length c0]] w fun x w' => x = .returned (.tuple #[.string r, .int .i64 e1]) ∧ Below w.heap.size w w') (h2 : sloperef3_Print.f k2 n0 l0 = some (r, e1)) :
    Calls Tryd.prog 11 #[.agg #[.int .i64 n0, .slice A0 l0.length c0]] w fun e w' => e = .returned (.bool true) ∧ Below w.heap.size w w' := by
  have hu24 := Tryd.underlying24
  have HC := Aside0.mk hr0
  have HG := Aside0.mk hG
  have HP := Aside0.mk hP
  have H1 := Aside0.mk h1; have H2 := Aside0.mk h2
  clear hr0 hG hP h1 h2
  have KA := Aside0.mk (blk_new w (.cells #[.int .i64 n0, .slice A0 l0.length c0] 24 (0, 0)))
  have HB := Aside0.mk (below_alloc (Below.refl w.heap.size w) (.cells #[.int .i64 n0, .slice A0 l0.length c0] 24 (0, 0)))
  refine (callsIn_wide (n := 6)).1 ?_
  refine callsIn_of_wp Tryd.func11 rfl trivial ?_ rfl
  simp only [Tryd.ntmps11, List.size_toArray, List.length_cons, List.length_nil, Nat.reduceAdd, Nat.reduceSub, Array.replicate_succ, Array.replicate_zero, List.push_toArray, List.append_toArray, List.nil_append, List.cons_append]
  have qKA0 := (blk_cell KA.out 0).trans rfl; have qKA1 := (blk_cell KA.out 1).trans rfl
  gi_wp2_with fail
  refine ⟨trivial, ?_⟩; gi_at_call 14
  refine (callsIn_wide.2 (twin_marked n0 A0 c0 l0 _ (Kd.C_below HC.out HB.out) hc0 hn0)).mono ?_
  rintro e w1 ⟨gT, capT, rfl, ho, hb⟩
  clear qKA0 qKA1
  have mHT := Aside0.mk ho; clear ho
  have nKA_ := Aside0.mk (blk_below KA.out hb)
  have nHB_ := Aside0.mk (below_step HB.out hb)
  clear KA HB
  have KA := nKA_; have HB := nHB_
  clear nKA_ nHB_
  clear hb; have HT := mHT; clear mHT
  have xKT := Aside0.mk (blk_new w1 (.cells #[.int .i64 n0, .slice (some ⟨gT, 0, none⟩) l0.length capT] 24 (0, 0)))
  have nKA_ := Aside0.mk (blk_alloc KA.out (.cells #[.int .i64 n0, .slice (some ⟨gT, 0, none⟩) l0.length capT] 24 (0, 0)))
  have nHB_ := Aside0.mk (below_alloc HB.out (.cells #[.int .i64 n0, .slice (some ⟨gT, 0, none⟩) l0.length capT] 24 (0, 0)))
  have nHT_ := Aside0.mk (Kd.R_alloc HT.out (.cells #[.int .i64 n0, .slice (some ⟨gT, 0, none⟩) l0.length capT] 24 (0, 0)))
  clear KA HB HT
  have KA := nKA_; have HB := nHB_; have HT := nHT_
  clear nKA_ nHB_ nHT_
  have KT := xKT; clear xKT
  have lT := Aside0.mk (wmarked_fits HT.out)
  have qKT0 := (blk_cell KT.out 0).trans rfl; have qKT1 := (blk_cell KT.out 1).trans rfl
  gi_wp2_with fail
  refine ⟨trivial, ?_⟩; gi_at_call 61
  refine (callsIn_wide.2 (H1.out _ _ _ (wmarked_reads HT.out) lT.out (tz_at HG.out HB.out) (pw_at HP.out HB.out))).mono ?_
  rintro e w2 ⟨rfl, hb⟩
  clear qKT0 qKT1
  have nKA_ := Aside0.mk (blk_below KA.out hb)
  have nHB_ := Aside0.mk (below_step HB.out hb)
  have nHT_ := Aside0.mk (Kd.R_below HT.out hb)
  have nKT_ := Aside0.mk (blk_below KT.out hb)
  clear KA HB HT KT
  have KA := nKA_; have HB := nHB_; have HT := nHT_; have KT := nKT_
  clear nKA_ nHB_ nHT_ nKT_
  clear hb
  have qKA0 := (blk_cell KA.out 0).trans rfl; have qKA1 := (blk_cell KA.out 1).trans rfl
  gi_wp2_with fail
  refine ⟨trivial, ?_⟩; gi_at_call 62
  refine (callsIn_wide.2 (sloperef3_Print.calls k2 n0 _ _ l0 r e1 _ (Kd.C_below HC.out HB.out) hc0 H2.out)).mono ?_
  rintro e w3 ⟨rfl, hb⟩
  clear qKA0 qKA1
  have nKA_ := Aside0.mk (blk_below KA.out hb)
  have nHB_ := Aside0.mk (below_step HB.out hb)
  have nHT_ := Aside0.mk (Kd.R_below HT.out hb)
  have nKT_ := Aside0.mk (blk_below KT.out hb)
  clear KA HB HT KT
  have KA := nKA_; have HB := nHB_; have HT := nHT_; have KT := nKT_
  clear nKA_ nHB_ nHT_ nKT_
  clear hb
  gi_wp2_with fail
  refine ⟨trivial, ?_⟩; gi_at_call 21
  refine (callsIn_wide.2 (slopelaw3_num.calls e1 e1 _ rfl)).mono ?_
  rintro e w4 ⟨rfl, hd⟩
  have hb := hd.below; clear hd
  have nKA_ := Aside0.mk (blk_below KA.out hb)
  have nHB_ := Aside0.mk (below_step HB.out hb)
  have nHT_ := Aside0.mk (Kd.R_below HT.out hb)
  have nKT_ := Aside0.mk (blk_below KT.out hb)
  clear KA HB HT KT
  have KA := nKA_; have HB := nHB_; have HT := nHT_; have KT := nKT_
  clear nKA_ nHB_ nHT_ nKT_
  clear hb
  have qKA0 := (blk_cell KA.out 0).trans rfl; have qKA1 := (blk_cell KA.out 1).trans rfl
  have qKT0 := (blk_cell KT.out 0).trans rfl; have qKT1 := (blk_cell KT.out 1).trans rfl
  gi_wp2_with fail
  refine ⟨trivial, ?_⟩; gi_at_call 22
  refine (callsIn_wide.2 (kept_marked n0 gT capT l0 A0 c0 _ (Kd.R_reads' HT.out).2.2 (Kd.R_reads' HT.out).2.1 (Kd.C_below HC.out HB.out) hc0)).mono ?_
  rintro e w5 ⟨rfl, hb⟩
  clear qKA0 qKA1 qKT0 qKT1
  have nKA_ := Aside0.mk (blk_below KA.out hb)
  have nHB_ := Aside0.mk (below_step HB.out hb)
  have nKT_ := Aside0.mk (blk_below KT.out hb)
  clear KA HB KT HT
  have KA := nKA_; have HB := nHB_; have KT := nKT_
  clear nKA_ nHB_ nKT_
  clear hb
  gi_wp2_with fail
  refine bodyPost_ret (v := .bool true) ?_ rfl ⟨rfl, HB.out⟩
  simp [results, Tryd.f11, go_sem]
theorem BitPrints_calls (n0 : Int) (A0 : Option Addr) (c0 : Nat) (l0 : List Int) (w : World) (hr0 : Kd.C (Kd.int .u64) w A0 l0.length l0) (hc0 : l0.length ≤ c0) (hn0 : l0.length * 8 ≤ 140737488351232) (hw : Wds l0) (hG : Tz w) (hP : Pw w) :
    Calls Tryd.prog 11 #[.agg #[.int .i64 n0, .slice A0 l0.length c0]] w fun e w' => e = .returned (.bool true) ∧ Below w.heap.size w w' := by
  obtain ⟨r, e1, ⟨k2, h2⟩, h1⟩ := Print_alike n0 l0 hw (by omega)
  exact BitPrints_walk k2 n0 A0 c0 l0 w hr0 hc0 hn0 hG hP r e1 h1 (h2 k2 (Nat.le_refl _))
end Go.Proofs.YtjmkhdhffmlhiaaDoor.PAll
end
