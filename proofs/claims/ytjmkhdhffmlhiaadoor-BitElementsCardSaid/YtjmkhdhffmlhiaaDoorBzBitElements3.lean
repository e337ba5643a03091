import Derived.Test.YtjmkhdhffmlhiaaDoorBzBitElements2
import Derived.Lib.ItoaNum
import Derived.RangeFuncBox
import Derived.Maps.AppendAt
import Derived.RangeFuncFrom
import Derived.Lib.Hide
import Derived.StillTailTactics
import Derived.Deep.RegionHeld3
import Derived.Sort.CutIn
import Derived.Laws.EntriesVeiled
import Derived.Carry
section
namespace Go.Proofs.YtjmkhdhffmlhiaaDoor.PAll
set_option linter.unusedVariables false
set_option linter.unusedSimpArgs false
open Go.RowKit Go.Shelf Go.Proofs.YtjmkhdhffmlhiaaDoorW.PrintWords Go.Proofs.YtjmkhdhffmlhiaaDoorW.PrintLast Go.Proofs.YtjmkhdhffmlhiaaDoorW.PrintMore
attribute [local go_sem] Oper.semAt_some
theorem bl_top (i : Nat) {x : Int} (hx : Wd x) (h0 : x ≠ 0) : ∃ t : Nat, t < 64 ∧ 64 - (Lib.bitLen x.toNat : Int) = 63 - (t : Int) ∧ Wd (Go.bits .andNot .u64 x (shl .u64 1 (t : Int))) ∧ (Go.bits .andNot .u64 x (shl .u64 1 (t : Int))).toNat < x.toNat ∧
    bl i x = bl i (Go.bits .andNot .u64 x (shl .u64 1 (t : Int))) ++ [((64 * i + t : Nat) : Int)] := by
  have hn := hx.nat
  have hp : x.toNat ≠ 0 := by unfold Wd at hx; omega
  obtain ⟨b1, b2, b3⟩ := Lib.bitLenAux_bounds 64 x.toNat hn.1 hp
  have hle : Lib.bitLen x.toNat ≤ 64 := Lib.bitLen_le x.toNat 64 (Nat.le_refl _) hn.1
  obtain ⟨t, ht⟩ : ∃ t, Lib.bitLen x.toNat = t + 1 := ⟨Lib.bitLen x.toNat - 1, by unfold Lib.bitLen; omega⟩
  have ht' : Lib.bitLenAux 64 x.toNat = t + 1 := ht
  rw [ht', Nat.add_sub_cancel] at b2
  rw [ht'] at b3
  have ht64 : t < 64 := by omega
  have hw := (andNot_eq x (shl .u64 1 (t : Int))).2
  have hsh : Wd (shl .u64 1 (t : Int)) := (one_shl (by omega) (by omega)).2
  have htb : ∀ j, tb (Go.bits .andNot .u64 x (shl .u64 1 (t : Int))) j = (tb x j && !decide (j = t)) := fun j => by
    rw [tb_andNot hx hsh, tb_one (by omega) (by omega), Int.toNat_natCast]
  have c2 : tb x t = true := by
    unfold tb
    rw [Nat.testBit_eq_decide_div_mod_eq]
    have h1 : x.toNat / 2 ^ t = 1 := by
      rw [Nat.pow_succ] at b3
      have hpos : 0 < 2 ^ t := Nat.pow_pos (by omega)
      refine Nat.div_eq_of_lt_le (by omega) (by omega)
    rw [h1]
    rfl
  have c3 : ∀ j, t < j → tb x j = false := fun j hj => by
    unfold tb
    exact Nat.testBit_lt_two_pow (Nat.lt_of_lt_of_le b3 (Nat.pow_le_pow_right (by omega) (by omega)))
  refine ⟨t, ht64, by omega, hw, ?_, ?_⟩
  · have e1 : (Go.bits .andNot .u64 x (shl .u64 1 (t : Int))).toNat &&& x.toNat = (Go.bits .andNot .u64 x (shl .u64 1 (t : Int))).toNat := by
      refine Nat.eq_of_testBit_eq fun j => ?_
      have := htb j
      unfold tb at this
      rw [Nat.testBit_and, this]
      cases x.toNat.testBit j <;> simp
    have e2 : (Go.bits .andNot .u64 x (shl .u64 1 (t : Int))).toNat ≤ x.toNat := by
      rw [← e1]
      exact Nat.and_le_right
    refine Nat.lt_of_le_of_ne e2 fun e3 => ?_
    have := htb t
    unfold tb at this
    rw [e3] at this
    unfold tb at c2
    rw [c2] at this
    simp at this
  · unfold bl
    generalize Go.bits .andNot .u64 x (shl .u64 1 (t : Int)) = x' at htb ⊢
    rw [show (64 : Nat) = t + 1 + (63 - t) by omega, List.range_add, List.range_succ, List.filter_append, List.filter_append, List.filter_append, List.filter_append]
    have e1 : ((List.range (63 - t)).map (fun j => t + 1 + j)).filter (tb x) = [] := List.filter_eq_nil_iff.2 (fun j hj => by obtain ⟨a, _, rfl⟩ := List.mem_map.1 hj; rw [c3 _ (by omega)]; simp)
    have e2 : ((List.range (63 - t)).map (fun j => t + 1 + j)).filter (tb x') = [] := List.filter_eq_nil_iff.2 (fun j hj => by obtain ⟨a, _, rfl⟩ := List.mem_map.1 hj; rw [htb, c3 _ (by omega)]; simp)
    have e3 : [t].filter (tb x) = [t] := by simp [c2]
    have e4 : [t].filter (tb x') = [] := by simp [htb]
    have e5 : (List.range t).filter (tb x') = (List.range t).filter (tb x) := by
      refine List.filter_congr fun j hj => ?_
      have := List.mem_range.1 hj
      rw [htb, decide_eq_false (by omega)]; simp
    rw [e1, e2, e3, e4, e5]
    simp
theorem fall_prefix {pre a b c d e : List Int} {x : Int} (h1 : pre ++ (a ++ b) = e) (h2 : c ++ (x :: d) = a) : (pre ++ c ++ [x]) <+: e ∧ (pre ++ c).length < e.length := by
  subst h2 h1
  refine ⟨⟨d ++ b, by simp⟩, by simp <;> omega⟩
theorem sle_word (ws : List Int) (i : Nat) : (els (64 * (i + 1)) ws).reverse = (bl i (ws.getD i 0)).reverse ++ (els (64 * i) ws).reverse := by
  rw [els_word, List.reverse_append]
set_option maxRecDepth 100000 in
set_option maxHeartbeats 4000000 in
theorem fall1_in (K : Nat → Prop) (n : Nat) (hn : 1 ≤ n) (l Bs b off len cap : Nat) (ws : List Int) (hw : Wds ws) (hlen : ws.length = len) (h64 : len ≤ 64) (hb : K b) (J Jx : List Int → World → Prop)
    (hY : ∀ pre x W, J pre W → pre.length < (els (64 * len) ws).reverse.length → (pre ++ [x]) <+: (els (64 * len) ws).reverse → YieldAt Fence.wide (n - 1) Tryd.prog l #[.int .i64 x] W fun e W' =>
      (e = .returned (.bool true) ∧ J (pre ++ [x]) W' ∧ Ke K W W') ∨ (e = .returned (.bool false) ∧ Jx (pre ++ [x]) W'))
    (W : World) (hBs : W.cell? ⟨Bs, 0, none⟩ = some (.slice (some ⟨b, off, none⟩) len cap)) (hKs : K Bs) (hc : ∀ j, j < len → W.cell? ⟨b, off + j, none⟩ = some (.int .u64 (ws.getD j 0))) (h0 : J [] W) :
    CallsIn Fence.wide n Tryd.prog 83 #[.func (.yield l) #[] #[], .pointer (some ⟨Bs, 0, none⟩)] W fun e W' => (∃ v, e = .returned v) ∧
      ((∃ ys, ys = (els (64 * len) ws).reverse ∧ J ys W') ∨ (∃ pre, pre <+: (els (64 * len) ws).reverse ∧ Jx pre W')) := by
  refine callsIn_of_wp Tryd.func83 rfl trivial ?_ rfl
  simp only [Tryd.ntmps83, List.size_toArray, List.length_cons, List.length_nil, Nat.reduceAdd, Nat.reduceSub, Array.replicate_succ, Array.replicate_zero, List.push_toArray, List.append_toArray, List.nil_append, List.cons_append]
  gi_wp2
  gi_loopw [3] (fun i wr => ∃ (k : Nat) (pre : List Int), k ≤ len ∧ i = .int .i64 ((k : Int) - 1) ∧ J pre wr ∧ pre ++ (els (64 * k) ws).reverse = (els (64 * len) ws).reverse ∧ Ke K W wr)
    (fun i _ => (intOf i + 1).toNat)
  case atStart => exact ⟨len, [], Nat.le_refl _, by simp, h0, rfl, Ke.refl _ _⟩
  case round =>
    obtain ⟨k, pre, hk, rfl, hJs, hpre, hnx⟩ := hrel
    by_cases hlt : 0 < k
    · obtain ⟨k, rfl⟩ : ∃ k', k = k' + 1 := ⟨k - 1, by omega⟩
      rw [show ((k + 1 : Nat) : Int) - 1 = (k : Int) by omega]
      have hcx : wr.cell? ⟨b, off + k, none⟩ = some (.int .u64 (ws.getD k 0)) := (hnx.cell hb (off + k)).trans (hc k (by omega))
      have hcB : wr.cell? ⟨Bs, 0, none⟩ = some (.slice (some ⟨b, off, none⟩) len cap) := (hnx.cell hKs 0).trans hBs
      have hwd : Wd (ws.getD k 0) := hw.getD k
      obtain ⟨y, hy0⟩ : ∃ y, ws.getD k 0 = y := ⟨_, rfl⟩
      rw [sle_word, hy0] at hpre
      rw [hy0] at hcx hwd
      clear hy0
      have HPRE := Aside0.mk hpre
      clear hpre
      have hkl : k < len := by omega
      gi_wp2
      gi_loopw [4, 5] (fun v _ wr2 => ∃ (x : Int) (pre2 : List Int), v = .int .u64 x ∧ Wd x ∧ pre2 ++ (bl k x).reverse = (bl k y).reverse ∧ J (pre ++ pre2) wr2 ∧ Ke K W wr2)
        (fun v _ _ => (intOf v).toNat)
      case atStart => exact ⟨y, [], rfl, hwd, rfl, by simpa using hJs, hnx⟩
      case round =>
        obtain ⟨x, pre2, rfl, hx, hpre2, hJ2, hn2⟩ := hrel
        by_cases h0x : x = 0
        · subst h0x
          rw [bl_zero, List.reverse_nil, List.append_nil] at hpre2
          gi_wp2
          refine ⟨⟨k, pre ++ pre2, by omega, rfl, hJ2, by rw [hpre2, List.append_assoc]; exact HPRE.out, hn2⟩, ?_⟩
          simp only [intOf]
          omega
        · obtain ⟨t, t1, t2, t3, t4, t5⟩ := bl_top k hx h0x
          have hne : (x != 0) = true := by simpa using h0x
          have hne2 : (x == 0) = false := by simpa using h0x
          have hT0 : (0 : Int) ≤ (t : Int) := by omega
          have hT1 : (t : Int) < 64 := by omega
          have hT2 : (t : Int) ≤ 64 := by omega
          obtain ⟨z, hz⟩ : ∃ z : Int, z = 63 - (t : Int) := ⟨_, rfl⟩
          have hzw : IntKind.i64.wrap (63 - z) = (t : Int) := by
            rw [hz, show (63 : Int) - (63 - (t : Int)) = (t : Int) by omega]
            exact (i64_w _).trans (by unfold wrap64; omega)
          obtain ⟨P, hP⟩ : ∃ P : Int, shl .u64 1 (t : Int) = P := ⟨_, rfl⟩
          have hPw0 : IntKind.u64.wrap (1 * 2 ^ ((t : Int)).toNat) = P := shl_small hP hT2
          have hPw : IntKind.u64.wrap (2 ^ t) = P := by rw [← hPw0, Int.toNat_natCast, Int.one_mul]
          clear hPw0
          have HPW := Aside0.mk hPw
          clear hPw
          rw [hP] at t3 t4 t5
          obtain ⟨x', hx'⟩ : ∃ x' : Int, Go.bits .andNot .u64 x P = x' := ⟨_, rfl⟩
          rw [hx'] at t3 t4 t5
          rw [← hz] at t2
          have hrev : pre2 ++ (((64 * k + t : Nat) : Int) :: (bl k x').reverse) = (bl k y).reverse := by rw [← hpre2, t5]; simp
          rw [show ((64 * k + t : Nat) : Int) = (k : Int) * 64 + (t : Int) by omega] at hrev
          obtain ⟨p1, p2⟩ := fall_prefix HPRE.out hrev
          obtain ⟨fn, tmps, assign, body, hy, hR⟩ := hY _ ((k : Int) * 64 + (t : Int)) wr hJ2 p2 p1
          have HREV := Aside0.mk hrev
          have HZ := Aside0.mk hz
          have T5 := Aside0.mk t5
          have HP1 := Aside0.mk p1
          have LZ := Aside0.mk t2
          have HPP := Aside0.mk hP
          have HX := Aside0.mk hx'
          clear hrev hz t5 p1 p2 t2 hpre2 hP hx'
          gi_wp2_with (refine ⟨trivial, ?_⟩; gi_at_call 84; refine (callsIn_wide.2 (lz_calls _ hx.1 (by have := hx.2; omega))).mono ?_; rw [LZ.out]; rintro e w' ⟨rfl, rfl⟩)
          refine hR.mono ?_
          rintro e W3 (⟨rfl, hJ3, hk3⟩ | ⟨rfl, hJx3⟩)
          · gi_wp2
            refine ⟨⟨x', pre2 ++ [(k : Int) * 64 + (t : Int)], by rw [HPW.out, HX.out], t3, by rw [List.append_assoc, List.singleton_append]; exact HREV.out, by rw [← List.append_assoc]; exact hJ3, hn2.trans hk3⟩, ?_⟩
            simp only [intOf]
            rw [HPW.out, HX.out]
            exact t4
          · gi_wp2
            refine bodyPost_ret (results_none rfl _ _ _) rfl ?_
            exact ⟨⟨_, rfl⟩, .inr ⟨_, HP1.out, hJx3⟩⟩
    · obtain rfl : k = 0 := by omega
      gi_wp2
      go_end0
      refine ⟨⟨_, rfl⟩, .inl ⟨_, rfl, ?_⟩⟩
      rw [← hpre]
      simpa [els] using hJs
end Go.Proofs.YtjmkhdhffmlhiaaDoor.PAll
end
section
namespace Go.Proofs.YtjmkhdhffmlhiaaDoor.PAll
set_option linter.unusedVariables false
open Go.RowKit Go.Proofs.YtjmkhdhffmlhiaaDoorW.PrintWords Go.Proofs.YtjmkhdhffmlhiaaDoorW.PrintLast Go.Proofs.YtjmkhdhffmlhiaaDoorW.PrintMore
set_option maxHeartbeats 4000000 in
set_option maxRecDepth 100000 in
theorem All_calls (n0 : Int) (A0 : Option Addr) (c0 : Nat) (l0 r : List Int) (w : World) (hr0 : Kd.C (Kd.int .u64) w A0 l0.length l0) (hc0 : l0.length ≤ c0) (h : bitset_own.f n0 l0 = some r) :
    Calls Tryd.prog 39 #[.agg #[.int .i64 n0, .slice A0 l0.length c0]] w fun e w' => ∃ (B : Nat) (A : Option Addr) (c : Nat), e = .returned (.func (.func 82) #[] #[.pointer (some ⟨B, 0, none⟩)]) ∧
      w'.heap[B]? = some (.cells #[.slice A r.length c] 22 (0, 0)) ∧ w.heap.size ≤ B ∧ Kd.R (Kd.int .u64) 87 w' w.heap.size (fun k => k ≠ B) (.slice A r.length c) r ∧ Below w.heap.size w w' := by
  have hu24 := Tryd.underlying24
  have HC := Aside0.mk hr0
  have HO := Aside0.mk h
  clear hr0 h
  go_enter Tryd.func39, Tryd.ntmps39
  go_wp2_with (first
    | ((with_reducible refine gate_callee (f := 81) rfl ?_)
       refine goesL_ (some 5) rfl rfl Tryd.func81 (by kernel_rfl) rfl #[.agg #[.int .i64 n0, .slice A0 l0.length c0]] rfl (by (try simp only [List.map_toArray, List.map_cons, List.map_nil]); first | done | rfl) ?_
       (with_reducible refine (bitset_own.calls n0 _ _ l0 r _ ?s1 ?s2 HO.out).mono ?_)
       (case s1 => repeat (first | exact HC.out | (with_reducible refine Kd.C_alloc ?_ _) | (with_reducible refine Kd.C_drewN ?_ _) | (with_reducible refine Kd.C_drew ?_)))
       (case s2 => exact hc0)
       rintro e w1 ⟨v, rfl, ho, hb⟩
       obtain ⟨A, c, ev⟩ := Kd.R_slice ho
       subst ev
       refine ⟨_, rfl, ?_⟩
       have HR := Aside0.mk ho
       have HB := Aside0.mk hb
       clear ho hb))
  go_ret
  have h1 : Below w.heap.size w (w.alloc (.cells #[.int .i64 n0, .slice A0 l0.length c0] 24)) := below_alloc (Below.refl _ _) _
  have hBw : Below w.heap.size w w1 := below_step h1 HB.out
  have hR := Kd.R_lower HR.out (below_size h1)
  exact ⟨w1.heap.size, A, c, rfl, heap_alloc_new w1 _, hBw.size, Kd.R_alloc (Kd.R_mono (Kd.R_bound hR) (fun k hk => Nat.ne_of_lt hk.2.2.1)) _, below_alloc hBw _⟩
end Go.Proofs.YtjmkhdhffmlhiaaDoor.PAll
end
section
namespace Go.Proofs.YtjmkhdhffmlhiaaDoor.PAll
set_option linter.unusedVariables false
set_option linter.unusedSimpArgs false
open Go.RowKit Go.Shelf Go.Proofs.YtjmkhdhffmlhiaaDoorW.PrintWords Go.Proofs.YtjmkhdhffmlhiaaDoorW.PrintLast Go.Proofs.YtjmkhdhffmlhiaaDoorW.PrintMore
attribute [local go_sem] Oper.semAt_some
theorem run_equalIn_fn (w : World) {P : Program} {ps rs : Array TypeId} {va : Bool} (d : Nat) (t : TypeId) (f : Fn) (c lb : Array Value) (h : P.underlying t = some (.func ps rs va)) : (Op.equalIn (d + 1) t (.func f c lb) .nilFunc).run P w = .ok false w := by
  simp [Op.equalIn, run_underlying h]
theorem run_equal_fn (w : World) {P : Program} {ps rs : Array TypeId} {va : Bool} (t : TypeId) (f : Fn) (c lb : Array Value) (h : P.underlying t = some (.func ps rs va)) : (Op.equal t (.func f c lb) .nilFunc).run P w = .ok false w := run_equalIn_fn w 9999 t f c lb h
theorem run_eql_fn (w : World) {P : Program} {ps rs : Array TypeId} {va : Bool} (t : TypeId) (f : Fn) (c lb : Array Value) (h : P.underlying t = some (.func ps rs va)) : (binOp .eql t (.func f c lb) .nilFunc).run P w = .ok (.bool false) w := by
  simp only [binOp]
  simp [run_equal_fn w t f c lb h]
theorem run_neq_fn (w : World) {P : Program} {ps rs : Array TypeId} {va : Bool} (t : TypeId) (f : Fn) (c lb : Array Value) (h : P.underlying t = some (.func ps rs va)) : (binOp .neq t (.func f c lb) .nilFunc).run P w = .ok (.bool true) w := by
  simp only [binOp]
  simp [run_equal_fn w t f c lb h]
def Iter (K : Nat → Prop) (n : Nat) (gf : Nat) (lb : Array Value) (xs : List Int) (w : World) : Prop :=
  SeqStopsK Fence.wide n Tryd.prog gf lb (fun x : { x : Int // x ∈ xs } => #[Value.int .i64 x.1]) (Ke K) (fun ys => ys.map (·.1) = xs) (fun pre => pre.map (·.1) <+: xs) xs.length w
theorem own_R {W : World} {base : Nat} {v : Value} {k : Nat} {xs : List Int} (h : W.ownsRow base 3 1 v k (xs.map (Value.int .i64))) (hk : k = xs.length) : Kd.R (Kd.int .i64) 3 W base (fun _ => True) v xs := by
  subst hk
  exact Kd.R_of_own h (fun _ _ => trivial)
theorem own_lower {W : World} {b b' : Nat} {e : TypeId} {size k : Nat} {v : Value} {xs : List Value} (h : W.ownsRow b e size v k xs) (hb : b' ≤ b) : W.ownsRow b' e size v k xs :=
  ⟨h.1, h.2.imp id (fun ⟨g, cap, cur, e1, e2, e3⟩ => ⟨g, cap, cur, e1, Nat.le_trans hb e2, e3⟩)⟩
theorem own_ne {W : World} {b j : Nat} {e : TypeId} {size k : Nat} {v : Value} {xs : List Value} (h : W.ownsRow b e size v k xs) (hj : j < b) : some j ≠ v.ownBlock := by
  rcases h.2 with ⟨rfl, _⟩ | ⟨g, cap, cur, rfl, hg, _⟩
  · simp [Value.ownBlock]
  · intro e'
    have : j = g := by simpa [Value.ownBlock] using e'
    omega
set_option maxRecDepth 100000 in
set_option maxHeartbeats 4000000 in
theorem heard_calls (K : Nat → Prop) (gf : Nat) (lb : Array Value) (xs : List Int) (most : Int) (w : World) (hI : Iter K 5 gf lb xs w) (hKl : ∀ k, K k → k < w.heap.size)
    (eg : ∀ args w, (callFunc gf args).run Tryd.prog w = .ok (.enter gf args) w) (hlen : xs.length ≤ 4096) :
    Calls Tryd.prog 41 #[.func (.func gf) #[] lb, .int .i64 most] w fun e w' => ∃ v, e = .returned (.tuple #[v, .bool true]) ∧ Kd.R (Kd.int .i64) 3 w' w.heap.size (fun _ => True) v (xs.take most.toNat) ∧ Below w.heap.size w w' := by
  obtain ⟨i0, hi, hz0, hz1, hz2⟩ := info_parts info3
  have hu49 := Tryd.underlying49
  have hEq : ∀ W, (binOp .eql 49 (.func (.func gf) #[] lb) .nilFunc).run Tryd.prog W = .ok (.bool false) W := fun W => run_eql_fn W _ _ _ _ hu49
  unfold Iter at hI
  refine (callsIn_wide (n := 6)).1 ?_
  refine callsIn_of_wp_marks Tryd.func41 rfl trivial ?_ rfl
  simp only [Tryd.ntmps41, List.size_toArray, List.length_cons, List.length_nil, Nat.reduceAdd, Nat.reduceSub, Array.replicate_succ, Array.replicate_zero, List.push_toArray, List.append_toArray, List.nil_append, List.cons_append]
  by_cases hm : most < 1
  · have hd : decide (most < 1) = true := decide_eq_true hm
    gi_wp2
    have hM := ((Below.refl _ w).alloc (Nat.le_refl _) (.cells #[.int .i64 most] 3)).alloc (by simp) (.cells #[.slice none 0 0] 25)
    refine ⟨_, results_tmp2 rfl _ _ _, _, rfl, ?_, hM⟩
    rw [show most.toNat = 0 by omega]
    exact Kd.R_nil _ _ _ _ _
  · have hd : decide (most < 1) = false := decide_eq_false hm
    gi_wp2
    have bM := Boxed.new w 3 (.int .i64 most)
    have bO := Boxed.new (w.alloc (.cells #[.int .i64 most] 3)) 25 (.slice none 0 0)
    rw [World.size_alloc] at bO
    have hB0 : Below w.heap.size w ((w.alloc (.cells #[.int .i64 most] 3)).alloc (.cells #[.slice none 0 0] 25)) := ((Below.refl _ w).alloc (Nat.le_refl _) _).alloc (by simp) _
    have hbase : w.heap.size ≤ ((w.alloc (.cells #[.int .i64 most] 3)).alloc (.cells #[.slice none 0 0] 25)).heap.size := by simp; omega
    refine wpIn_rangeFunc_ownG (α := { x : Int // x ∈ xs }) rfl (by decide) (gf := gf) (lb := lb) rfl trivial eg hI (fun h g => Ke.trans h g) (fun W l o o' hl ho hc hw k hk => ?kb) hB0 (fun _ => rfl)
      (fun pre W => ((∃ v, Boxed W (w.heap.size + 1) 25 v ∧ W.ownsRow (w.heap.size + 2) 3 1 v pre.length ((pre.map (·.1)).map (Value.int .i64)) ∧ True) ∧ Boxed W w.heap.size 3 (.int .i64 most) ∧ (pre.length : Int) < most ∧ w.heap.size + 2 ≤ W.heap.size) ∧ Below w.heap.size w W)
      (fun c pre W => ((∃ v, Boxed W (w.heap.size + 1) 25 v ∧ W.ownsRow (w.heap.size + 2) 3 1 v pre.length ((pre.map (·.1)).map (Value.int .i64)) ∧ True) ∧ c = .exit 0 ∧ (pre.length : Int) = most) ∧ Below w.heap.size w W)
      (OwnFrom.and (OwnFrom.and (Own.from (holdsRow_own (w.heap.size + 2) (w.heap.size + 1) 25 3 1 (fun (pre : List { x : Int // x ∈ xs }) => pre.length) (fun (pre : List { x : Int // x ∈ xs }) => (pre.map (·.1)).map (Value.int .i64)) (fun _ _ => True)) _) (OwnFrom.and (fun _ X Y row hs hg hr => hs.kept hg (fun e => by obtain ⟨_, o, ho, hc⟩ := hr _ e.symm; rw [show X.heap[_]? = _ from hs] at ho; cases ho; cases hc)) (OwnFrom.and (fun _ _ _ _ hs _ _ => hs) (fun _ _ _ _ hs hg _ => Nat.le_trans hs hg.size)))) (ownFrom_below (Nat.le_refl _) hbase))
      (fun c => OwnFrom.and (OwnFrom.and (Own.from (holdsRow_own (w.heap.size + 2) (w.heap.size + 1) 25 3 1 (fun (pre : List { x : Int // x ∈ xs }) => pre.length) (fun (pre : List { x : Int // x ∈ xs }) => (pre.map (·.1)).map (Value.int .i64)) (fun _ _ => True)) _) (fun _ _ _ _ hs _ _ => hs)) (ownFrom_below (Nat.le_refl _) hbase))
      ⟨⟨⟨_, bO, World.ownsRow_nil _ _ _ _, trivial⟩, bM.alloc _, by show ((0 : Nat) : Int) < most; omega, by simp⟩, hB0⟩
      (fun x => { tmps := #[.func (.func gf) #[] lb, .int .i64 most, undef, .pointer (some ⟨w.heap.size, 0, none⟩), .slice none 0 0, .bool false, .pointer (some ⟨w.heap.size + 1, 0, none⟩), .int .i64 x.1, .func (.func gf) #[] lb, .bool false, undef, .int .i64 most, .bool false, undef, .func (.func gf) #[] lb, .int .i64 x.1, undef, undef, undef, undef, undef, undef, undef, undef, undef], defers := [] }) ?assign ?body ?done ?stop
    case kb =>
      have := hKl k hk
      exact World.putObj_heap_other (fun e => by simp at hl; omega)
    case assign =>
      intro l x W K hK
      gi_wp2
      exact hK
    case body =>
      rintro l pre x W ⟨⟨⟨v, hv, hrow, _⟩, hM, hlt, hsz⟩, hB⟩ hpl
      have hc := hv.cell
      have hcM := hM.cell
      have hpl2 : pre.length < 4096 := by omega
      have HLT := Aside0.mk hlt
      clear hlt
      gi_wp2_with (gi_at_builtin; refine wpListIn_append_own _ rfl _ _ 25 rfl (w.heap.size + 2) 3 i0 (.int .i64 0) 1 8 Tryd.underlying25 hi hz0 hz1 hz2 rfl (by decide) _ _ _ rfl (hrow.alloc _) ⟨W.heap.size, 0, none⟩ 1 1 [.int .i64 x.1] rfl rfl (cell_one_new _ _ _) (by simp [Value.oneCell']) (by unfold maxLen; omega) (by omega) (by simp; omega) ?_; intro v' w1 hown' hgrow _; obtain ⟨g', cap', rfl⟩ := ownsRow_succ hown'; obtain ⟨hv1, hv2, hr2, hk2, hb2⟩ := hv.appended (by decide) (own_lower hrow (Nat.le_add_right _ 2)) hB.size (Nat.le_succ _) (own_lower hown' (Nat.le_add_right _ 2)) hgrow; have hM1 := (hM.alloc (.cells #[.int .i64 x.1] 3)).kept hgrow (own_ne hrow (by omega)); have hc1 := hv1.cell; have hf1 := hv1.frozen; have hM2 := hM1.kept (grownBy_setCell' w1 (w.heap.size + 1) (.slice (some ⟨g', 0, none⟩) (pre.length + 1) cap')) (fun e => by injection e with e; omega); have hcM2 := hM2.cell; have hcv2 := hv2.cell; have hrow2 := hown'.kept (grownBy_setCell' w1 (w.heap.size + 1) (.slice (some ⟨g', 0, none⟩) (pre.length + 1) cap')) (.inr (own_ne hown' (by omega)).symm))
      · have hgt : most ≤ (pre.length : Int) + 1 := by assumption
        exact ⟨hk2.from _, ⟨⟨_, hv2, by simpa using hrow2, trivial⟩, rfl, by have := HLT.out; simp; omega⟩, hB.trans hb2⟩
      · have hle : (pre.length : Int) + 1 < most := by assumption
        exact ⟨hk2.from _, fun k hk => hb2.block k (hKl k hk), ⟨⟨_, hv2, by simpa using hrow2, trivial⟩, hM2, by simp; omega, by have := hb2.size; have := hk2.size; omega⟩, hB.trans hb2⟩
    case done =>
      rintro D ys W hD hys ⟨⟨⟨v, hv, hrow, _⟩, hM, hlt, hsz⟩, hB⟩ hK
      have hc := hv.cell
      have HY := Aside0.mk hys
      have HLT := Aside0.mk hlt
      clear hys hlt
      gi_wp2
      refine ⟨by simp, .inl ⟨_, _, rfl, run_takeDeferred hK, ?_⟩⟩
      refine ⟨_, results_tmp2 rfl _ _ _, v, rfl, ?_, hB.trans (belowK_b (w := w) (Nat.le_refl _) W D _ _ (by simp at hD; omega) hK rfl rfl)⟩
      have hl : xs.length = ys.length := by have := congrArg List.length HY.out; rw [List.length_map] at this; exact this.symm
      rw [List.take_of_length_le (by have := HLT.out; omega)]
      have hR := own_R (own_lower (ownsRow_putObj hrow (.deferred none) hK rfl) (Nat.le_add_right w.heap.size 2)) (by rw [List.length_map])
      rw [HY.out] at hR
      exact hR
    case stop =>
      rintro D c pre W hD hpre ⟨⟨⟨v, hv, hrow, _⟩, rfl, hlt⟩, hB⟩ hK
      have hc := hv.cell
      have HY := Aside0.mk hpre
      have HLT := Aside0.mk hlt
      clear hpre hlt
      gi_wp2
      refine ⟨by simp, .inl ⟨_, _, rfl, run_takeDeferred hK, ?_⟩⟩
      refine ⟨_, results_tmp2 rfl _ _ _, v, rfl, ?_, hB.trans (belowK_b (w := w) (Nat.le_refl _) W D _ _ (by simp at hD; omega) hK rfl rfl)⟩
      have hl : pre.map (·.1) = xs.take most.toNat := by
        have h1 := List.prefix_iff_eq_take.1 HY.out
        rw [List.length_map] at h1
        rw [h1]
        congr 1
        have := HLT.out
        omega
      have hR := own_R (own_lower (ownsRow_putObj hrow (.deferred none) hK rfl) (Nat.le_add_right w.heap.size 2)) (by rw [List.length_map])
      rw [hl] at hR
      exact hR
end Go.Proofs.YtjmkhdhffmlhiaaDoor.PAll
end
section
namespace Go.Proofs.YtjmkhdhffmlhiaaDoor.PAll
set_option linter.unusedVariables false
set_option linter.unusedSimpArgs false
open Go.RowKit Go.Shelf Go.Proofs.YtjmkhdhffmlhiaaDoorW.PrintWords Go.Proofs.YtjmkhdhffmlhiaaDoorW.PrintLast Go.Proofs.YtjmkhdhffmlhiaaDoorW.PrintMore
attribute [local go_sem] Oper.semAt_some
theorem Iter.later {K : Nat → Prop} {n gf : Nat} {lb : Array Value} {xs : List Int} {w w' : World} (h : Iter K n gf lb xs w) (hb : Below w.heap.size w w') : Iter K n gf lb xs w' :=
  fun l J Jx W hW hJ hJx hY h0 => h l J Jx W (hb.trans (hW.mono hb.size)) hJ hJx hY h0
set_option maxRecDepth 100000 in
set_option maxHeartbeats 1000000 in
theorem fall1_nil_in (n : Nat) (l Bs : Nat) (J : List Int → World → Prop) (W : World) (A : Option Addr) (c : Nat) (hBs : W.cell? ⟨Bs, 0, none⟩ = some (.slice A 0 c)) (h0 : J [] W) :
    CallsIn Fence.wide n Tryd.prog 83 #[.func (.yield l) #[] #[], .pointer (some ⟨Bs, 0, none⟩)] W fun e W' => (∃ v, e = .returned v) ∧ J [] W' := by
  refine callsIn_of_wp Tryd.func83 rfl trivial ?_ rfl
  simp only [Tryd.ntmps83, List.size_toArray, List.length_cons, List.length_nil, Nat.reduceAdd, Nat.reduceSub, Array.replicate_succ, Array.replicate_zero, List.push_toArray, List.append_toArray, List.nil_append, List.cons_append]
  gi_wp2
  gi_loopw [3] (fun i wr => i = .int .i64 (-1) ∧ J [] wr) (fun _ _ => 0)
  case atStart => exact ⟨rfl, h0⟩
  case round =>
    obtain ⟨rfl, hJs⟩ := hrel
    gi_wp2
    go_end0
    exact ⟨⟨_, rfl⟩, hJs⟩
theorem fall_iter (K : Nat → Prop) (n : Nat) (hn : 1 ≤ n) (Bs : Nat) (sv : Value) (ws : List Int) (hw : Wds ws) (h64 : ws.length ≤ 64) (w : World) (hBs : Bs < w.heap.size) (hKs : K Bs)
    (hc : w.cell? ⟨Bs, 0, none⟩ = some sv) (hI : Held K w sv ws) : Iter K n 83 #[.pointer (some ⟨Bs, 0, none⟩)] (els (64 * ws.length) ws).reverse w := fun l J Jx W hW _ _ hY h0 => by
  have hc' := (hW.cell (p := ⟨Bs, 0, none⟩) hBs).trans hc
  rcases hI with ⟨⟨A, c, rfl⟩, rfl⟩ | ⟨b, off, cap, rfl, hb, hlt, hcs⟩
  · exact (fall1_nil_in n l Bs (fun p W => ∃ p', p'.map (·.1) = p ∧ J p' W) W A c hc' ⟨[], rfl, h0⟩).mono fun e W' ⟨he, p', h1, h2⟩ => ⟨he, .inl ⟨p', h1.trans (by simp [els]), h2⟩⟩
  · refine (fall1_in K n hn l Bs b off ws.length cap ws hw rfl h64 hb (fun p W => ∃ p', p'.map (·.1) = p ∧ J p' W) (fun p W => ∃ p', p'.map (·.1) = p ∧ Jx p' W) ?_ W hc' hKs (fun j hj => (hW.cell (p := ⟨b, off + j, none⟩) hlt).trans (hcs j hj)) ⟨[], rfl, h0⟩).mono ?_
    · rintro pre x W1 ⟨p', rfl, hJ⟩ hlen hpre
      have hx : x ∈ (els (64 * ws.length) ws).reverse := hpre.subset (by simp)
      rw [List.length_map] at hlen
      obtain ⟨fn, tmps, assign, body, hy, hR⟩ := hY p' ⟨x, hx⟩ W1 hJ hlen
      refine ⟨fn, tmps, assign, body, hy, hR.mono ?_⟩
      rintro e W' (⟨rfl, h1, h2⟩ | ⟨rfl, h1⟩)
      · exact .inl ⟨rfl, ⟨_, by simp, h1⟩, h2⟩
      · exact .inr ⟨rfl, ⟨_, by simp, h1⟩⟩
    · rintro e W' ⟨he, ⟨ys, rfl, p', h1, h2⟩ | ⟨pre, hp, p', h1, h2⟩⟩
      · exact ⟨he, .inl ⟨p', h1, h2⟩⟩
      · exact ⟨he, .inr ⟨p', by subst h1; exact hp, h2⟩⟩
set_option maxHeartbeats 4000000 in
set_option maxRecDepth 100000 in
theorem Falling_calls (n0 : Int) (A0 : Option Addr) (c0 : Nat) (l0 r : List Int) (w : World) (hr0 : Kd.C (Kd.int .u64) w A0 l0.length l0) (hc0 : l0.length ≤ c0) (h : bitset_own.f n0 l0 = some r) :
    Calls Tryd.prog 40 #[.agg #[.int .i64 n0, .slice A0 l0.length c0]] w fun e w' => ∃ (B : Nat) (A : Option Addr) (c : Nat), e = .returned (.func (.func 83) #[] #[.pointer (some ⟨B, 0, none⟩)]) ∧
      w'.heap[B]? = some (.cells #[.slice A r.length c] 22 (0, 0)) ∧ w.heap.size ≤ B ∧ Kd.R (Kd.int .u64) 87 w' w.heap.size (fun k => k ≠ B) (.slice A r.length c) r ∧ Below w.heap.size w w' := by
  have hu24 := Tryd.underlying24
  have HC := Aside0.mk hr0
  have HO := Aside0.mk h
  clear hr0 h
  go_enter Tryd.func40, Tryd.ntmps40
  go_wp2_with (first
    | ((with_reducible refine gate_callee (f := 81) rfl ?_)
       refine goesL_ (some 5) rfl rfl Tryd.func81 (by kernel_rfl) rfl #[.agg #[.int .i64 n0, .slice A0 l0.length c0]] rfl (by (try simp only [List.map_toArray, List.map_cons, List.map_nil]); first | done | rfl) ?_
       (with_reducible refine (bitset_own.calls n0 _ _ l0 r _ ?s1 ?s2 HO.out).mono ?_)
       (case s1 => repeat (first | exact HC.out | (with_reducible refine Kd.C_alloc ?_ _) | (with_reducible refine Kd.C_drewN ?_ _) | (with_reducible refine Kd.C_drew ?_)))
       (case s2 => exact hc0)
       rintro e w1 ⟨v, rfl, ho, hb⟩
       obtain ⟨A, c, ev⟩ := Kd.R_slice ho
       subst ev
       refine ⟨_, rfl, ?_⟩
       have HR := Aside0.mk ho
       have HB := Aside0.mk hb
       clear ho hb))
  go_ret
  have h1 : Below w.heap.size w (w.alloc (.cells #[.int .i64 n0, .slice A0 l0.length c0] 24)) := below_alloc (Below.refl _ _) _
  have hBw : Below w.heap.size w w1 := below_step h1 HB.out
  have hR := Kd.R_lower HR.out (below_size h1)
  exact ⟨w1.heap.size, A, c, rfl, heap_alloc_new w1 _, hBw.size, Kd.R_alloc (Kd.R_mono (Kd.R_bound hR) (fun k hk => Nat.ne_of_lt hk.2.2.1)) _, below_alloc hBw _⟩
theorem held_of {w3 : World} {B base : Nat} {ok : Nat → Prop} {Ar : Option Addr} {cr : Nat} {r : List Int} (hR : Kd.R (Kd.int .u64) 87 w3 base ok (.slice Ar r.length cr) r) : Held (fun k => k = B ∨ k = 0 ∨ some k = (Value.slice Ar r.length cr).ownBlock) w3 (.slice Ar r.length cr) r := by
  have HMR := Aside0.mk hR
  clear hR
  by_cases h0 : r = []
  · exact .inl ⟨⟨Ar, cr, by rw [h0]; rfl⟩, h0⟩
  · have hC := (Kd.R_reads' HMR.out).2.2
    have hpos : 0 < r.length := List.length_pos_iff.2 h0
    obtain ⟨ad, ha, _⟩ := Kd.at_int hC 0 (by decide) (by omega)
    subst ha
    obtain ⟨inner, ho⟩ := Kd.R_own HMR.out
    obtain ⟨z, hz⟩ : ∃ z, r.length = z + 1 := ⟨r.length - 1, by omega⟩
    rw [hz] at ho
    obtain ⟨g', cap', hv⟩ := ownsRow_succ ho
    injection hv with e1 e2 e3
    injection e1 with e1
    refine .inr ⟨g', 0, cr, by rw [e1], .inr (.inr (by rw [e1]; rfl)), Kd.R_lt HMR.out g' (by rw [e1]; rfl), fun j hj => ?_⟩
    obtain ⟨ad2, h2, h3⟩ := Kd.at_int hC (j : Int) (by omega) (by omega)
    injection h2 with h2
    rw [← h2, e1, rd_nat, Int.toNat_natCast] at h3
    by_cases hj0 : j = 0
    · subst hj0
      simpa [Addr.add] using h3
    · simpa [Addr.add, hj0] using h3
def KIn (K : Nat → Prop) (w w' : World) : Prop := ∀ k, K k → k < w'.heap.size ∧ (w.heap.size ≤ k ∨ k = 0)
theorem All_iter (n0 : Int) (A0 : Option Addr) (c0 : Nat) (l0 r : List Int) (w : World) (hr0 : Kd.C (Kd.int .u64) w A0 l0.length l0) (hc0 : l0.length ≤ c0) (h : bitset_own.f n0 l0 = some r) (hw : Wds r) (h64 : r.length ≤ 64) (hG : Tz w) :
    Calls Tryd.prog 39 #[.agg #[.int .i64 n0, .slice A0 l0.length c0]] w fun e w' => ∃ (lb : Array Value) (K : Nat → Prop), e = .returned (.func (.func 82) #[] lb) ∧ Iter K 5 82 lb (els (64 * r.length) r) w' ∧ KIn K w w' ∧ Below w.heap.size w w' := by
  refine (All_calls n0 A0 c0 l0 r w hr0 hc0 h).mono ?_
  rintro e w' ⟨B, A, c, rfl, hB, hle, hR, hb⟩
  refine ⟨_, _, rfl, all_stopsM (fun k => k = B ∨ k = 0 ∨ some k = (Value.slice A r.length c).ownBlock) 5 (by decide) B _ r hw h64 w' (blk_lt hB) (.inr (.inl rfl)) ((blk_cell hB 0).trans rfl) (held_of hR) (tz_at hG hb), ?_, hb⟩
  rintro k (rfl | rfl | hk)
  · exact ⟨blk_lt hB, .inl hle⟩
  · exact ⟨Nat.lt_of_lt_of_le (World.block_lt_of_cell? w _ (hG 0 (by decide))) (below_size hb), .inr rfl⟩
  · exact ⟨Kd.R_lt hR k hk.symm, .inl (Kd.R_base hR k hk.symm)⟩
theorem Falling_iter (n0 : Int) (A0 : Option Addr) (c0 : Nat) (l0 r : List Int) (w : World) (hr0 : Kd.C (Kd.int .u64) w A0 l0.length l0) (hc0 : l0.length ≤ c0) (h : bitset_own.f n0 l0 = some r) (hw : Wds r) (h64 : r.length ≤ 64) (hG : Tz w) :
    Calls Tryd.prog 40 #[.agg #[.int .i64 n0, .slice A0 l0.length c0]] w fun e w' => ∃ (lb : Array Value) (K : Nat → Prop), e = .returned (.func (.func 83) #[] lb) ∧ Iter K 5 83 lb (els (64 * r.length) r).reverse w' ∧ KIn K w w' ∧ Below w.heap.size w w' := by
  refine (Falling_calls n0 A0 c0 l0 r w hr0 hc0 h).mono ?_
  rintro e w' ⟨B, A, c, rfl, hB, hle, hR, hb⟩
  refine ⟨_, _, rfl, fall_iter (fun k => k = B ∨ k = 0 ∨ some k = (Value.slice A r.length c).ownBlock) 5 (by decide) B _ r hw h64 w' (blk_lt hB) (.inl rfl) ((blk_cell hB 0).trans rfl) (held_of hR), ?_, hb⟩
  rintro k (rfl | rfl | hk)
  · exact ⟨blk_lt hB, .inl hle⟩
  · exact ⟨Nat.lt_of_lt_of_le (World.block_lt_of_cell? w _ (hG 0 (by decide))) (below_size hb), .inr rfl⟩
  · exact ⟨Kd.R_lt hR k hk.symm, .inl (Kd.R_base hR k hk.symm)⟩
end Go.Proofs.YtjmkhdhffmlhiaaDoor.PAll
end
section
namespace Go.Proofs.YtjmkhdhffmlhiaaDoor.PAll
set_option linter.unusedVariables false
set_option linter.unusedSimpArgs false
open Go.RowKit Go.Shelf Go.Proofs.YtjmkhdhffmlhiaaDoorW.PrintWords Go.Proofs.YtjmkhdhffmlhiaaDoorW.PrintLast Go.Proofs.YtjmkhdhffmlhiaaDoorW.PrintMore
attribute [local go_sem] Oper.semAt_some
theorem els_len (ws : List Int) (k : Nat) : (els (64 * k) ws).length ≤ 64 * k := by
  unfold els
  rw [List.length_map]
  exact Nat.le_trans (List.length_filter_le _ _) (by simp)
set_option maxRecDepth 100000 in
set_option maxHeartbeats 4000000 in
theorem Elements_calls (n0 : Int) (A0 : Option Addr) (c0 : Nat) (l0 r : List Int) (w : World) (hr0 : Kd.C (Kd.int .u64) w A0 l0.length l0) (hc0 : l0.length ≤ c0) (h : bitset_own.f n0 l0 = some r) (hw : Wds r) (h64 : r.length ≤ 64) (hG : Tz w) :
    Calls Tryd.prog 36 #[.agg #[.int .i64 n0, .slice A0 l0.length c0]] w fun e w' => ∃ v, e = .returned v ∧ Kd.R (Kd.int .i64) 3 w' w.heap.size (fun _ => True) v (els (64 * r.length) r) ∧ Below w.heap.size w w' := by
  obtain ⟨i0, hi, hz0, hz1, hz2⟩ := info_parts info3
  have hu24 := Tryd.underlying24
  have HC := Aside0.mk hr0
  have HG := Aside0.mk hG
  have HO := Aside0.mk h
  clear hr0 hG h
  have hxl := els_len r r.length
  obtain ⟨xs, hxs⟩ : ∃ xs, els (64 * r.length) r = xs := ⟨_, rfl⟩
  rw [hxs] at hxl ⊢
  have HXS := Aside0.mk hxs
  clear hxs
  obtain ⟨o1, ho1⟩ : ∃ o1 : Obj, o1 = .cells #[.int .i64 n0, .slice A0 l0.length c0] 24 (0, 0) := ⟨_, rfl⟩
  obtain ⟨o2, ho2⟩ : ∃ o2 : Obj, o2 = .cells #[.slice none 0 0] 25 (0, 0) := ⟨_, rfl⟩
  have K0 : ((w.alloc o1).alloc o2).heap[w.heap.size]? = some o1 := blk_alloc (blk_new w o1) _
  have K1 : ((w.alloc o1).alloc o2).heap[w.heap.size + 1]? = some o2 := by have := blk_new (w.alloc o1) o2; rwa [World.size_alloc] at this
  have HB0 : Below w.heap.size w ((w.alloc o1).alloc o2) := below_alloc (below_alloc (Below.refl _ _) _) _
  rw [ho1, ho2] at K0 K1 HB0
  clear ho1 ho2 o1 o2
  have KA := Aside0.mk K0
  have KB := Aside0.mk K1
  have HB := Aside0.mk HB0
  clear K0 K1 HB0
  refine (callsIn_wide (n := 6)).1 ?_
  refine callsIn_of_wp_marks Tryd.func36 rfl trivial ?_ rfl
  simp only [Tryd.ntmps36, List.size_toArray, List.length_cons, List.length_nil, Nat.reduceAdd, Nat.reduceSub, Array.replicate_succ, Array.replicate_zero, List.push_toArray, List.append_toArray, List.nil_append, List.cons_append]
  have q0 := (blk_cell KA.out 0).trans rfl
  have q1 := (blk_cell KA.out 1).trans rfl
  gi_wp2_with fail
  refine ⟨trivial, ?_⟩; gi_at_call 39
  refine (callsIn_wide.2 (All_iter n0 A0 c0 l0 r _ (Kd.C_alloc (Kd.C_alloc HC.out _) _) hc0 HO.out hw h64 (tz_at HG.out HB.out))).mono ?_
  rintro e w1 ⟨lb, K, rfl, hI, hKin, hb⟩
  rw [HXS.out] at hI
  have hsz : w.heap.size + 2 ≤ w1.heap.size := by have := below_size hb; simp at this; omega
  have htab : 0 < w.heap.size := World.block_lt_of_cell? w _ (HG.out 0 (by decide))
  have hKl : ∀ k, K k → k < w1.heap.size := fun k hk => (hKin k hk).1
  have hKn : ∀ k, K k → k ≠ w.heap.size + 1 := fun k hk => by
    rcases (hKin k hk).2 with h | h
    · simp at h
      omega
    · rw [h]
      omega
  have HKL := Aside0.mk hKl
  have HKN := Aside0.mk hKn
  clear hKl hKn hKin
  have bO : Boxed w1 (w.heap.size + 1) 25 (.slice none 0 0) := blk_below KB.out hb
  have hB1 : Below w.heap.size w w1 := below_step HB.out hb
  clear q0 q1 KA KB hb
  gi_wp2_with fail
  unfold Iter at hI
  refine wpIn_rangeFunc_ownG (α := { x : Int // x ∈ xs }) rfl (by decide) (gf := 82) (lb := lb) rfl trivial (enters_of Tryd.func82 (by kernel_rfl) rfl) hI (fun h g => Ke.trans h g) (fun W l o o' hl ho hc hw k hk => ?kb) (Below.refl _ _) (fun _ => rfl)
    (fun pre W => ((∃ v, Boxed W (w.heap.size + 1) 25 v ∧ W.ownsRow w1.heap.size 3 1 v pre.length ((pre.map (·.1)).map (Value.int .i64)) ∧ True) ∧ w1.heap.size ≤ W.heap.size) ∧ Below w.heap.size w W)
    (fun _ _ _ => False)
    (OwnFrom.and (OwnFrom.and (Own.from (holdsRow_own w1.heap.size (w.heap.size + 1) 25 3 1 (fun (pre : List { x : Int // x ∈ xs }) => pre.length) (fun (pre : List { x : Int // x ∈ xs }) => (pre.map (·.1)).map (Value.int .i64)) (fun _ _ => True)) _) (fun _ _ _ _ hs hg _ => Nat.le_trans hs hg.size)) (ownFrom_below (Nat.le_refl _) (by omega)))
    (fun _ _ _ _ _ hs _ _ => hs)
    ⟨⟨⟨_, bO, World.ownsRow_nil _ _ _ _, trivial⟩, Nat.le_refl _⟩, hB1⟩
    (fun x => { tmps := #[.agg #[.int .i64 n0, .slice A0 l0.length c0], .pointer (some ⟨w.heap.size, 0, none⟩), .slice none 0 0, .pointer (some ⟨w.heap.size + 1, 0, none⟩), .int .i64 x.1, .agg #[.int .i64 n0, .slice A0 l0.length c0], .func (.func 82) #[] lb, .int .i64 x.1, undef, undef, undef, undef, undef], defers := [] }) ?assign ?body ?done ?stop
  case kb =>
    have := HKL.out k hk
    exact World.putObj_heap_other (fun e => by omega)
  case assign =>
    intro l x W K hK
    gi_wp2
    exact hK
  case body =>
    rintro l pre x W ⟨⟨⟨v, hv, hrow, _⟩, hle⟩, hB⟩ hpl
    have hc := hv.cell
    have hpl2 : pre.length < 4096 := by omega
    gi_wp2_with (gi_at_builtin; refine wpListIn_append_own _ rfl _ _ 25 rfl w1.heap.size 3 i0 (.int .i64 0) 1 8 Tryd.underlying25 hi hz0 hz1 hz2 rfl (by decide) _ _ _ rfl (hrow.alloc _) ⟨W.heap.size, 0, none⟩ 1 1 [.int .i64 x.1] rfl rfl (cell_one_new _ _ _) (by simp [Value.oneCell']) (by unfold maxLen; omega) (by omega) (by simp; omega) ?_; intro v' w9 hown' hgrow _; obtain ⟨g', cap', rfl⟩ := ownsRow_succ hown'; obtain ⟨hv1, hv2, hr2, hk2, hb2⟩ := hv.appended (by decide) (own_lower hrow (show w.heap.size ≤ w1.heap.size by omega)) hB.size (Nat.le_succ _) (own_lower hown' (show w.heap.size ≤ w1.heap.size by omega)) hgrow; have hc1 := hv1.cell; have hf1 := hv1.frozen; have hrow2 := hown'.kept (grownBy_setCell' w9 (w.heap.size + 1) (.slice (some ⟨g', 0, none⟩) (pre.length + 1) cap')) (.inr (own_ne hown' (by omega)).symm))
    refine ⟨hk2.from _, fun k hk => ?_, ⟨⟨_, hv2, by simpa using hrow2⟩, by have := hb2.size; have := hk2.size; omega⟩, hB.trans hb2⟩
    have h1 := HKL.out k hk
    have h2 := HKN.out k hk
    exact (Below.heap_setCell _ _ _ k h2).trans ((hgrow.block k (by simp; omega) (own_ne hrow h1)).trans (Below.heap_alloc _ _ _ (by omega)))
  case done =>
    rintro D ys W hD hys ⟨⟨⟨v, hv, hrow, _⟩, hle⟩, hB⟩ hK
    have hc := hv.cell
    have HY := Aside0.mk hys
    clear hys
    gi_wp2
    refine ⟨by simp, .inl ⟨_, _, rfl, run_takeDeferred hK, ?_⟩⟩
    refine ⟨_, results_tmp rfl _ _ _, v, rfl, ?_, hB.trans (belowK_b (w := w) (Nat.le_refl _) W D _ _ (by omega) hK rfl rfl)⟩
    have hR := own_R (own_lower (ownsRow_putObj hrow (.deferred none) hK rfl) (show w.heap.size ≤ w1.heap.size by omega)) (by rw [List.length_map])
    rw [HY.out] at hR
    exact hR
  case stop =>
    rintro D c pre W _ _ h _
    exact h.elim
end Go.Proofs.YtjmkhdhffmlhiaaDoor.PAll
end
section
namespace Go.Proofs.YtjmkhdhffmlhiaaDoor.PAll
set_option linter.unusedVariables false
open Go.RowKit Go.Shelf Go.Proofs.YtjmkhdhffmlhiaaDoorW.PrintWords Go.Proofs.YtjmkhdhffmlhiaaDoorW.PrintLast Go.Proofs.YtjmkhdhffmlhiaaDoorW.PrintMore
attribute [local go_sem] Oper.semAt_some
theorem blk_abide {W W' : World} {row : Option Nat} {B k : Nat} {cs : Array Value} {t : TypeId} (h : W.heap[k]? = some (.cells cs t (0, 0))) (hg : W.grownBy W' row) (hr : ∀ r, row = some r → B ≤ r ∧ ∃ o : Obj, W.heap[r]? = some o ∧ o.isCells = false) : W'.heap[k]? = some (.cells cs t (0, 0)) :=
  (hg.block k (blk_lt h) (fun e => by obtain ⟨_, o, ho, hc⟩ := hr k e.symm; rw [h] at ho; cases ho; cases hc)).trans h
theorem ko_below {W W' : World} (h : Below W.heap.size W W') : KeepsOthers W W' := ⟨h.size, fun k o hk _ => (h.block k (Array.getElem?_eq_some_iff.1 hk).1).trans hk⟩
end Go.Proofs.YtjmkhdhffmlhiaaDoor.PAll
end
section
namespace Go.Proofs.YtjmkhdhffmlhiaaDoor.PAll
open Go.RowKit Go.Proofs.YtjmkhdhffmlhiaaDoorW.PrintWords Go.Proofs.YtjmkhdhffmlhiaaDoorW.PrintLast Go.Proofs.YtjmkhdhffmlhiaaDoorW.PrintMore
attribute [local go_sem] max2_int min2_int max_two min_two max_three min_three max_four min_four w64_u8 w64_mod256   -- for this text's walks alone
set_option linter.unusedVariables false
set_option linter.unusedSimpArgs false
def slopelaw3_sameInts.l0 : Nat → List Int → List Int → Int → Option (Bool)
  | 0, _, _, _ => none
  | k + 1, x0, x1, x5 => if x5 < (x0.length : Int) then (if 0 ≤ x5 then (if x5 < (x1.length : Int) then (if (rd x0 x5) = (rd x1 x5) then (slopelaw3_sameInts.l0 k x0 x1 (wrap64 (x5 + 1))) else (some false)) else (none)) else (none)) else (some true)
def slopelaw3_sameInts.f (k : Nat) (l0 : List Int) (l1 : List Int) : Option (Bool) := if (l0.length : Int) = (l1.length : Int) then (slopelaw3_sameInts.l0 k l0 l1 0) else (some false)
set_option maxHeartbeats 8000000 in
set_option maxRecDepth 100000 in
theorem slopelaw3_sameInts.calls (k : Nat) (A0 : Option Addr) (c0 : Nat) (l0 : List Int) (A1 : Option Addr) (c1 : Nat) (l1 : List Int) (r : Bool) (w : World) (hr0 : Kd.C (Kd.int .i64) w A0 l0.length l0) (hc0 : l0.length ≤ c0) (hr1 : Kd.C (Kd.int .i64) w A1 l1.length l1) (hc1 : l1.length ≤ c1) (h : slopelaw3_sameInts.f k l0 l1 = some r) :
    Calls Tryd.prog 38 #[.slice A0 l0.length c0, .slice A1 l1.length c1] w fun e w' => e = .returned (.bool r) ∧ Drawn0 w w' := by
  have HR0 := Aside0.mk hr0
  have HC0 := Aside0.mk hc0
  clear hr0 hc0
  have HR1 := Aside0.mk hr1
  have HC1 := Aside0.mk hc1
  clear hr1 hc1
  have H : (if (l0.length : Int) = (l1.length : Int) then (slopelaw3_sameInts.l0 k l0 l1 0) else (some false)) = some r := h
  clear h
  by_cases c3 : (l0.length : Int) = (l1.length : Int)
  · rw [if_pos c3] at H
    have c3b0 : ((l0.length : Int) == (l1.length : Int)) = true := beq_iff_eq.mpr c3
    have c3b1 : ((l0.length : Int) != (l1.length : Int)) = false := bne_eq_false_iff_eq.mpr c3
    have c3b2 : (l0.length == l1.length) = true := by first | simpa using c3 | (simp at c3 ⊢; omega)
    clear c3
    have H' := Aside0.mk H
    clear H
    go_enter Tryd.func38, Tryd.ntmps38
    go_wp2
    repeat (go_quiet (fail); try go_wp2)
    go_loopg [5] k (fun kq v5 w' => ∃ (x5_1 : Int), v5 = .int .i64 x5_1 ∧ Aside0 (slopelaw3_sameInts.l0 kq l0 l1 x5_1 = some r) ∧ Aside0 (kq ≤ k) ∧ Drawn0 w w')
    case atStart => exact ⟨(0), (by first | rfl | (simp; done) | (simp [*]; done)), H', ⟨Nat.le_refl _⟩, by repeat (first | exact Drawn0.refl _ | apply Drawn0.step)⟩
    case round =>
      clear H'
      try clear c1
      try clear p2
      try clear c3
      try clear c3b0
      try clear c3b1
      try clear c3b2
      obtain ⟨x5_1, rfl, HA, HK1, ⟨m1, rfl⟩⟩ := hrel
      cases gk with
      | zero => exact absurd HA.out (by simp [slopelaw3_sameInts.l0])
      | succ k1 =>
        have H := HA.out
        clear HA
        simp only [slopelaw3_sameInts.l0] at H
        by_cases c4 : x5_1 < (l0.length : Int)
        · rw [if_pos c4] at H
          have c4b0 : decide (x5_1 < (l0.length : Int)) = true := decide_eq_true c4
          clear c4
          by_cases c5 : 0 ≤ x5_1
          · rw [if_pos c5] at H
            have c5b0 : decide (0 ≤ x5_1) = true := decide_eq_true c5
            clear c5
            by_cases c6 : x5_1 < (l1.length : Int)
            · rw [if_pos c6] at H
              have c6b0 : decide (x5_1 < (l1.length : Int)) = true := decide_eq_true c6
              clear c6
              by_cases c7 : (rd l0 x5_1) = (rd l1 x5_1)
              · rw [if_pos c7] at H
                have c7b0 : ((rd l0 x5_1) == (rd l1 x5_1)) = true := beq_iff_eq.mpr c7
                have c7b1 : ((rd l0 x5_1) != (rd l1 x5_1)) = false := bne_eq_false_iff_eq.mpr c7
                clear c7
                have H' := Aside0.mk H
                clear H
                have p101 : 0 ≤ (x5_1 : Int) := of_decide_eq_true (by first | (with_reducible assumption) | assumption)
                have q101 : x5_1 < (l0.length : Int) := of_decide_eq_true (by first | (with_reducible assumption) | assumption)
                obtain ⟨ad101, e101, hx101_0⟩ := Kd.at_int HR0.out x5_1 p101 q101
                cases e101
                replace p101 := eq_true p101
                replace q101 := eq_true q101
                have p102 : 0 ≤ (x5_1 : Int) := of_decide_eq_true (by first | (with_reducible assumption) | assumption)
                have q102 : x5_1 < (l1.length : Int) := of_decide_eq_true (by first | (with_reducible assumption) | assumption)
                obtain ⟨ad102, e102, hx102_0⟩ := Kd.at_int HR1.out x5_1 p102 q102
                cases e102
                replace p102 := eq_true p102
                replace q102 := eq_true q102
                go_wp2
                repeat (go_quiet (fail); try go_wp2)
                go_roundg k1
                case measure => have := HK1.out; omega
                case rel => exact ⟨(wrap64 (x5_1 + 1)), (by first | rfl | (simp; done) | (simp [*]; done)), H', ⟨by have := HK1.out; omega⟩, by repeat (first | exact Drawn0.refl _ | apply Drawn0.step)⟩
              · rw [if_neg c7] at H
                have c7b0 : ((rd l0 x5_1) == (rd l1 x5_1)) = false := beq_eq_false_iff_ne.mpr c7
                have c7b1 : ((rd l0 x5_1) != (rd l1 x5_1)) = true := bne_iff_ne.mpr c7
                obtain rfl := Option.some.inj H
                have p101 : 0 ≤ (x5_1 : Int) := of_decide_eq_true (by first | (with_reducible assumption) | assumption)
                have q101 : x5_1 < (l0.length : Int) := of_decide_eq_true (by first | (with_reducible assumption) | assumption)
                obtain ⟨ad101, e101, hx101_0⟩ := Kd.at_int HR0.out x5_1 p101 q101
                cases e101
                replace p101 := eq_true p101
                replace q101 := eq_true q101
                have p102 : 0 ≤ (x5_1 : Int) := of_decide_eq_true (by first | (with_reducible assumption) | assumption)
                have q102 : x5_1 < (l1.length : Int) := of_decide_eq_true (by first | (with_reducible assumption) | assumption)
                obtain ⟨ad102, e102, hx102_0⟩ := Kd.at_int HR1.out x5_1 p102 q102
                cases e102
                replace p102 := eq_true p102
                replace q102 := eq_true q102
                go_wp2
                repeat (go_quiet (fail); try go_wp2)
                go_ret
                exact ⟨by first | rfl | (simp; done) | (simp [*]; done), by repeat (first | exact Drawn0.refl _ | apply Drawn0.step)⟩
            · rw [if_neg c6] at H
              exact absurd H (by simp)
          · rw [if_neg c5] at H
            exact absurd H (by simp)
        · rw [if_neg c4] at H
          have c4b0 : decide (x5_1 < (l0.length : Int)) = false := decide_eq_false c4
          clear c4
          obtain rfl := Option.some.inj H
          go_wp2
          repeat (go_quiet (fail); try go_wp2)
          go_ret
          exact ⟨by first | rfl | (simp; done) | (simp [*]; done), by repeat (first | exact Drawn0.refl _ | apply Drawn0.step)⟩
  · rw [if_neg c3] at H
    have c3b0 : ((l0.length : Int) == (l1.length : Int)) = false := beq_eq_false_iff_ne.mpr c3
    have c3b1 : ((l0.length : Int) != (l1.length : Int)) = true := bne_iff_ne.mpr c3
    have c3b2 : (l0.length == l1.length) = false := by first | simpa using c3 | (simp at c3 ⊢; omega)
    obtain rfl := Option.some.inj H
    go_enter Tryd.func38, Tryd.ntmps38
    go_wp2
    repeat (go_quiet (fail); try go_wp2)
    go_ret
    exact ⟨by first | rfl | (simp; done) | (simp [*]; done), by repeat (first | exact Drawn0.refl _ | apply Drawn0.step)⟩
end Go.Proofs.YtjmkhdhffmlhiaaDoor.PAll
end
section
namespace Go.Proofs.YtjmkhdhffmlhiaaDoor.PAll
open Go.RowKit Go.Proofs.YtjmkhdhffmlhiaaDoorW.PrintWords Go.Proofs.YtjmkhdhffmlhiaaDoorW.PrintLast Go.Proofs.YtjmkhdhffmlhiaaDoorW.PrintMore
theorem cut_hm (t e : TypeId) {i : TypeInfo} (ht : Tryd.prog.underlying t = some (.slice e)) (hi : Tryd.prog.info? e = some i) (g n cap m : Nat) (hm : m ≤ cap) :
    ∀ W : World, (Instr.slice t (.slice (some ⟨g, 0, none⟩) n cap) none (some (.int .i64 (m : Int))) (some (.int .i64 (m : Int)))).run Tryd.prog W = .ok (.slice (some ⟨g, 0, none⟩) m m) W := by
  intro W
  have hel : Tryd.prog.elem t = e := by simp [Program.elem, ht]
  have hu : Tryd.prog.underlying t = some (.slice (Tryd.prog.elem t)) := by rw [hel]; exact ht
  rw [run_slice_hm W t (some ⟨g, 0, none⟩) n cap hu .i64 .i64 (m : Int) (m : Int) (by omega) (by omega) (by omega), hel]
  simp [sizeOf, typeInfo, hi, sliced, Result.andThen, Addr.add]
theorem same_ints (l : List Int) (hb : l.length ≤ 9223372036854775807) : ∃ k, slopelaw3_sameInts.f k l l = some true := by
  have key : ∀ d i : Nat, i + d = l.length → ∃ k, slopelaw3_sameInts.l0 k l l (i : Int) = some true := by
    intro d
    induction d with
    | zero => intro i h; exact ⟨1, by simp only [slopelaw3_sameInts.l0]; rw [if_neg (by omega)]⟩
    | succ d ih =>
      intro i h
      obtain ⟨k, hk⟩ := ih (i + 1) (by omega)
      refine ⟨k + 1, ?_⟩
      simp only [slopelaw3_sameInts.l0]
      rw [if_pos (by omega), if_pos (by omega), if_pos (by omega)]
      rw [show wrap64 ((i : Int) + 1) = ((i + 1 : Nat) : Int) by unfold wrap64; omega]
      simpa using hk
  obtain ⟨k, hk⟩ := key l.length 0 (by omega)
  exact ⟨k, by unfold slopelaw3_sameInts.f; rw [if_pos rfl]; exact hk⟩
end Go.Proofs.YtjmkhdhffmlhiaaDoor.PAll
end
section
namespace Go.Proofs.YtjmkhdhffmlhiaaDoor.PAll
open Go.RowKit Go.Proofs.YtjmkhdhffmlhiaaDoorW.PrintWords Go.Proofs.YtjmkhdhffmlhiaaDoorW.PrintLast Go.Proofs.YtjmkhdhffmlhiaaDoorW.PrintMore
theorem two_blocks {w w1 : World} {o1 o2 : Obj} (hg : ((w.alloc o1).alloc o2).grownBy w1 (Value.slice none 0 0).ownBlock) : w1.heap[w.heap.size]? = some o1 ∧ w1.heap[w.heap.size + 1]? = some o2 := by
  have e1 := blk_alloc (blk_new w o1) o2
  have e2 : ((w.alloc o1).alloc o2).heap[w.heap.size + 1]? = some o2 := by
    have := blk_new (w.alloc o1) o2
    simpa using this
  exact ⟨(hg.block _ (by simp; omega) (by simp [Value.ownBlock])).trans e1, (hg.block _ (by simp) (by simp [Value.ownBlock])).trans e2⟩
def theMark : Int := 8608480567731124087
theorem mark_ys {m : Int} {l ys : List Int} (h : ys = l ++ [m]) (hm : theMark = m) : l ++ [8608480567731124087] = ys := by rw [h, ← hm]; rfl
theorem pos_ys {m : Int} {l ys : List Int} (h : ys = l ++ [m]) : 0 < ys.length := by rw [h]; simp
theorem R_not_blk {W : World} {base g : Nat} {ok : Nat → Prop} {v : Value} {xs : List Int} {cs : Array Value} (h : Kd.R (Kd.int .u64) 87 W base ok v xs) (hb : W.heap[g]? = some (.cells cs 24 (0, 0))) (e : some g = v.ownBlock) : False :=
  Kd.R_ne h hb (by decide) e
set_option maxHeartbeats 4000000 in
set_option maxRecDepth 100000 in
theorem twin_marked (n0 : Int) (A0 : Option Addr) (c0 : Nat) (l0 : List Int) (w : World) (hr0 : Kd.C (Kd.int .u64) w A0 l0.length l0) (hc0 : l0.length ≤ c0) (hn : l0.length * 8 ≤ 140737488351232) :
    Calls Tryd.prog 14 #[.agg #[.int .i64 n0, .slice A0 l0.length c0]] w fun e w' => ∃ g cap : Nat, e = .returned (.agg #[.int .i64 n0, .slice (some ⟨g, 0, none⟩) l0.length cap]) ∧ Kd.R (Kd.int .u64) 87 w' w.heap.size (fun _ => True) (.slice (some ⟨g, 0, none⟩) (l0 ++ [theMark]).length cap) (l0 ++ [theMark]) ∧ Below w.heap.size w w' := by
  have hu26 := Tryd.underlying24
  have HR0 := Aside0.mk hr0
  have HC0 := Aside0.mk hc0
  clear hr0 hc0
  have hn1 : l0.length + 1 ≤ 17592186044416 := by omega
  obtain ⟨ys, hys⟩ : ∃ ys, ys = l0 ++ [theMark] := ⟨_, rfl⟩
  have hyl : l0.length ≤ ys.length := by rw [hys]; simp
  have HY := Aside0.mk hys
  rw [← hys]
  clear hys
  obtain ⟨m, hm⟩ : ∃ m, theMark = m := ⟨_, rfl⟩
  rw [hm] at HY
  go_enter Tryd.func14, Tryd.ntmps14
  go_wp2_with (first
    | ((with_reducible refine gate_builtin (b := .append) (xs := #[.tmp 4, .tmp 6]) rfl ?_); at_builtin
       refine Kd.R_append_rows (Kd.int .u64) (w0 := w) w.heap.size rfl (.tmp 4) (.tmp 6) 22 87 (.int .u64 0) 8 rfl Tryd.underlying22 info87 rfl (by decide) (by omega) (.slice none 0 0) ([] : List Int) l0 _ _ _ (fun _ => True) (fun _ => False) rfl rfl ?aO ?aR (fun _ _ h => h) (fun _ h => h.elim) ?aF ?aB ?aS ?aL ?_
       (case aR => exact Kd.C_alloc (Kd.C_alloc HR0.out _) _)
       (case aB => exact below_alloc (below_alloc (Below.refl _ _) _) _)
       (case aF => exact (fun _ _ => trivial))
       (case aO => exact (Kd.R_nil _ _ _ _ (fun _ => True)))
       (case aS => exact (below_alloc (below_alloc (Below.refl _ _) _) _).size)
       (case aL => simp only [List.length_nil]; omega)
       intro v1 w1 ho hb hg hat
       rw [List.nil_append] at ho
       have HO := Aside0.mk ho
       have HB := Aside0.mk hb
       obtain ⟨b1, b2⟩ := two_blocks hg
       have B1 := Aside0.mk b1
       have B2 := Aside0.mk b2
       clear ho hb hg hat b1 b2)
    | ((with_reducible refine gate_builtin (b := .append) (xs := #[.tmp 8, .tmp 9]) rfl ?_); at_builtin
       refine Kd.R_append (Kd.int .u64) (w0 := w) w.heap.size rfl (.tmp 8) (.tmp 9) 22 87 (.int .u64 0) 8 rfl Tryd.underlying22 info87 rfl (by decide) (by omega) v1 l0 8608480567731124087 [.int .u64 8608480567731124087] (fun _ => True) (fun _ => False) rfl rfl ?aP (fun _ hk => hk.elim) ?aF ?aO ?aB ?aS ?aL ?_
       (case aP => exact rfl)
       (case aF => exact (fun _ _ => trivial))
       (case aO => exact HO.out)
       (case aB => exact HB.out)
       (case aS => exact HB.out.size)
       (case aL => omega)
       intro v2 w2 ho hb hg hat
       have e9 := mark_ys HY.out hm
       rw [e9] at ho
       obtain ⟨g, cap, eg, hgb, hgl, cells, hcells⟩ := Kd.R_form ho (pos_ys HY.out)
       have b1 := (hg.block w.heap.size (blk_lt B1.out) (fun e => R_not_blk HO.out B1.out e)).trans B1.out
       have b2 := (hg.block (w.heap.size + 1) (blk_lt B2.out) (fun e => R_not_blk HO.out B2.out e)).trans B2.out
       subst eg
       obtain ⟨i0, hi0, _, _, _⟩ := info_parts info87
       have hcut := cut_to (P := Tryd.prog) 22 87 .i64 Tryd.underlying22 hi0 (some ⟨g, 0, none⟩) ys.length cap (l0.length : Int) (by omega) (by omega) (Kd.R_reads' ho).2.1
       rw [Int.toNat_natCast] at hcut
       have HO2 := Aside0.mk ho
       have HB2 := Aside0.mk hb
       have BB1 := Aside0.mk b1
       have BB2 := Aside0.mk b2
       have q0 := cell_of_row w2 w.heap.size 0 _ _ _ b1
       have q1 := cell_of_row w2 w.heap.size 1 _ _ _ b1
       have f0 := blk_frozen b2 0
       have f1 := blk_frozen b2 1
       have g0 := cell_of_row w2 (w.heap.size + 1) 0 _ _ _ b2
       have g1 := cell_of_row w2 (w.heap.size + 1) 1 _ _ _ b2
       simp only [List.getElem?_toArray, List.getElem?_cons_zero, List.getElem?_cons_succ] at q0 q1 g0 g1
       clear hi0 ho hb hg hat e9 hcells hgb hgl b1 b2))
  go_still_tail 8, (by kernel_rfl)
  go_wp2
  refine bodyPost_ret (results_cell_row rfl _ _ (w.heap.size + 1) 24 #[.int .i64 n0, .slice (some ⟨g, 0, none⟩) l0.length cap] (0, 0) _ rfl ?_ Tryd.underlying24 rfl (by kernel_rfl)) rfl ?_
  · refine blk_put (cs := #[.int .i64 n0, .slice none 0 0]) ?_ 1 _ rfl
    refine blk_put (cs := #[.int .i64 0, .slice none 0 0]) ?_ 0 _ rfl
    exact BB2.out
  · refine ⟨g, cap, rfl, ?_, ?_⟩
    · exact Kd.R_mono (Kd.R_far (p := ⟨w.heap.size + 1, 1, none⟩) (Kd.R_far (p := ⟨w.heap.size + 1, 0, none⟩) (Kd.R_drew (Kd.R_types HO2.out BB2.out (by decide))) (fun _ hk => hk.2) _) (fun _ hk => hk.2) _) (fun _ hk => trivial)
    · exact ((below_drew HB2.out).setCell (by simp) _).setCell (by simp) _
end Go.Proofs.YtjmkhdhffmlhiaaDoor.PAll
end
section
namespace Go.Proofs.YtjmkhdhffmlhiaaDoor.PAll
open Go.RowKit Go.Proofs.YtjmkhdhffmlhiaaDoorW.PrintWords Go.Proofs.YtjmkhdhffmlhiaaDoorW.PrintLast Go.Proofs.YtjmkhdhffmlhiaaDoorW.PrintMore
set_option maxHeartbeats 4000000 in
set_option maxRecDepth 100000 in
theorem kept_marked (n0 : Int) (g cap : Nat) (l0 : List Int) (A1 : Option Addr) (c1 : Nat) (w : World) (ht : Kd.C (Kd.int .u64) w (some ⟨g, 0, none⟩) (l0 ++ [theMark]).length (l0 ++ [theMark])) (hcap : (l0 ++ [theMark]).length ≤ cap) (hr1 : Kd.C (Kd.int .u64) w A1 l0.length l0) (hc1 : l0.length ≤ c1) :
    Calls Tryd.prog 22 #[.agg #[.int .i64 n0, .slice (some ⟨g, 0, none⟩) l0.length cap], .agg #[.int .i64 n0, .slice A1 l0.length c1]] w fun e w' => e = .returned (.bool true) ∧ Below w.heap.size w w' := by
  have hlen : (l0 ++ [theMark]).length = l0.length + 1 := by simp
  rw [hlen] at ht hcap
  have hb := ht.2.1
  obtain ⟨k, hk⟩ := same_sets n0 l0 (by omega)
  have h1 : Kd.C (Kd.int .u64) w (some ⟨g, 0, none⟩) l0.length l0 := by
    have ht2 := ht
    rw [← hlen] at ht2
    have h := Kd.C_take (m := l0.length) ht2 (by omega)
    simpa using h
  have HT := Aside0.mk h1
  have HM := Aside0.mk ht
  have HR := Aside0.mk hr1
  have HK := Aside0.mk hk
  clear ht h1 hr1 hk hlen
  have HB := Aside0.mk (Below.refl w.heap.size w)
  obtain ⟨i0, hi0, _, _, _⟩ := info_parts info87
  have hcut := cut_hm 22 87 Tryd.underlying22 hi0 g l0.length cap (l0.length + 1) hcap
  simp only [Int.natCast_add, Int.cast_ofNat_Int] at hcut
  clear hi0
  go_enter Tryd.func22, Tryd.ntmps22
  go_upto_region 1 with (first | ((with_reducible refine gate_dst (N := 2) rfl ?_); (try (refine gate_guard (by rfl) ?_; dsimp only)); refine box_event ?hg (N := 2) ?hd (cs := #[.int .i64 n0, .slice (some ⟨g, 0, none⟩) l0.length cap]) (t := 24) ?hr ?_; (case hd => rfl); (case hg => rfl); (case hr => first | (go_simp; done) | (go_simp; rfl)); intro gb101 hg w4 hbox hb; have n0_ := Aside0.mk (below_step (by repeat (first | (with_reducible first | exact HB.out | apply below_alloc | apply pw_below_drewN | apply below_drew1) | exact HB.out)) hb); have n1_ := Aside0.mk (hbox); have n2_ := Aside0.mk ((by rw [hg]; exact (below_size (by repeat (first | (with_reducible first | exact HB.out | apply below_alloc | apply pw_below_drewN | apply below_drew1) | exact HB.out))) : w.heap.size ≤ gb101)); have n3_ := Aside0.mk ((by rw [hg]; exact (below_size (by repeat (first | (with_reducible first | exact HB.out | apply below_alloc | apply pw_below_drewN | apply below_drew1) | exact HB.out))) : w.heap.size ≤ gb101)); clear HB; have HB := n0_; have BK101 := n1_; have GW101 := n2_; have GE101 := n3_; clear n0_ n1_ n2_ n3_; clear hb hbox hg) | ((with_reducible refine gate_dst (N := 3) rfl ?_); (try (refine gate_guard (by rfl) ?_; dsimp only)); refine box_event ?hg (N := 3) ?hd (cs := #[.int .i64 n0, .slice A1 l0.length c1]) (t := 24) ?hr ?_; (case hd => rfl); (case hg => rfl); (case hr => first | (go_simp; done) | (go_simp; rfl)); intro gb102 hg w5 hbox hb; have n0_ := Aside0.mk (blk_below (g := gb101) (o := .cells #[.int .i64 n0, .slice (some ⟨g, 0, none⟩) l0.length cap] 24 (0, 0)) (by (with_reducible repeat (first | refine blk_drewN ?_ _ | refine blk_drew ?_ | refine blk_alloc ?_ _)); exact BK101.out) hb); have n1_ := Aside0.mk (below_step (by repeat (first | (with_reducible first | exact HB.out | apply below_alloc | apply pw_below_drewN | apply below_drew1 | refine below_set ?_ GE101.out) | exact HB.out)) hb); have n2_ := Aside0.mk (hbox); have n3_ := Aside0.mk ((by rw [hg]; exact (below_size (by repeat (first | (with_reducible first | exact HB.out | apply below_alloc | apply pw_below_drewN | apply below_drew1 | refine below_set ?_ GE101.out) | exact HB.out))) : w.heap.size ≤ gb102)); have n4_ := Aside0.mk ((by rw [hg]; exact (below_size (by repeat (first | (with_reducible first | exact HB.out | apply below_alloc | apply pw_below_drewN | apply below_drew1 | refine below_set ?_ GE101.out) | exact HB.out))) : w.heap.size ≤ gb102)); have n5_ := Aside0.mk ((by rw [hg]; exact Nat.ne_of_lt (blk_lt (g := gb101) (o := .cells #[.int .i64 n0, .slice (some ⟨g, 0, none⟩) l0.length cap] 24 (0, 0)) (by (with_reducible repeat (first | refine blk_drewN ?_ _ | refine blk_drew ?_ | refine blk_alloc ?_ _)); exact BK101.out)) : gb101 ≠ gb102)); have n6_ := Aside0.mk ((by rw [hg]; exact Nat.ne_of_gt (blk_lt (g := gb101) (o := .cells #[.int .i64 n0, .slice (some ⟨g, 0, none⟩) l0.length cap] 24 (0, 0)) (by (with_reducible repeat (first | refine blk_drewN ?_ _ | refine blk_drew ?_ | refine blk_alloc ?_ _)); exact BK101.out)) : gb102 ≠ gb101)); clear BK101; clear HB; have BK101 := n0_; have HB := n1_; have BK102 := n2_; have GW102 := n3_; have GE102 := n4_; have NB101_102 := n5_; have NB102_101 := n6_; clear n0_ n1_ n2_ n3_ n4_ n5_ n6_; clear hb hbox hg))
  repeat (go_quiet (first | ((with_reducible refine gate_dst (N := 2) rfl ?_); (try (refine gate_guard (by rfl) ?_; dsimp only)); refine box_event ?hg (N := 2) ?hd (cs := #[.int .i64 n0, .slice (some ⟨g, 0, none⟩) l0.length cap]) (t := 24) ?hr ?_; (case hd => rfl); (case hg => rfl); (case hr => first | (go_simp; done) | (go_simp; rfl)); intro gb101 hg w4 hbox hb; have n0_ := Aside0.mk (below_step (by repeat (first | (with_reducible first | exact HB.out | apply below_alloc | apply pw_below_drewN | apply below_drew1) | exact HB.out)) hb); have n1_ := Aside0.mk (hbox); have n2_ := Aside0.mk ((by rw [hg]; exact (below_size (by repeat (first | (with_reducible first | exact HB.out | apply below_alloc | apply pw_below_drewN | apply below_drew1) | exact HB.out))) : w.heap.size ≤ gb101)); have n3_ := Aside0.mk ((by rw [hg]; exact (below_size (by repeat (first | (with_reducible first | exact HB.out | apply below_alloc | apply pw_below_drewN | apply below_drew1) | exact HB.out))) : w.heap.size ≤ gb101)); clear HB; have HB := n0_; have BK101 := n1_; have GW101 := n2_; have GE101 := n3_; clear n0_ n1_ n2_ n3_; clear hb hbox hg) | ((with_reducible refine gate_dst (N := 3) rfl ?_); (try (refine gate_guard (by rfl) ?_; dsimp only)); refine box_event ?hg (N := 3) ?hd (cs := #[.int .i64 n0, .slice A1 l0.length c1]) (t := 24) ?hr ?_; (case hd => rfl); (case hg => rfl); (case hr => first | (go_simp; done) | (go_simp; rfl)); intro gb102 hg w5 hbox hb; have n0_ := Aside0.mk (blk_below (g := gb101) (o := .cells #[.int .i64 n0, .slice (some ⟨g, 0, none⟩) l0.length cap] 24 (0, 0)) (by (with_reducible repeat (first | refine blk_drewN ?_ _ | refine blk_drew ?_ | refine blk_alloc ?_ _)); exact BK101.out) hb); have n1_ := Aside0.mk (below_step (by repeat (first | (with_reducible first | exact HB.out | apply below_alloc | apply pw_below_drewN | apply below_drew1 | refine below_set ?_ GE101.out) | exact HB.out)) hb); have n2_ := Aside0.mk (hbox); have n3_ := Aside0.mk ((by rw [hg]; exact (below_size (by repeat (first | (with_reducible first | exact HB.out | apply below_alloc | apply pw_below_drewN | apply below_drew1 | refine below_set ?_ GE101.out) | exact HB.out))) : w.heap.size ≤ gb102)); have n4_ := Aside0.mk ((by rw [hg]; exact (below_size (by repeat (first | (with_reducible first | exact HB.out | apply below_alloc | apply pw_below_drewN | apply below_drew1 | refine below_set ?_ GE101.out) | exact HB.out))) : w.heap.size ≤ gb102)); have n5_ := Aside0.mk ((by rw [hg]; exact Nat.ne_of_lt (blk_lt (g := gb101) (o := .cells #[.int .i64 n0, .slice (some ⟨g, 0, none⟩) l0.length cap] 24 (0, 0)) (by (with_reducible repeat (first | refine blk_drewN ?_ _ | refine blk_drew ?_ | refine blk_alloc ?_ _)); exact BK101.out)) : gb101 ≠ gb102)); have n6_ := Aside0.mk ((by rw [hg]; exact Nat.ne_of_gt (blk_lt (g := gb101) (o := .cells #[.int .i64 n0, .slice (some ⟨g, 0, none⟩) l0.length cap] 24 (0, 0)) (by (with_reducible repeat (first | refine blk_drewN ?_ _ | refine blk_drew ?_ | refine blk_alloc ?_ _)); exact BK101.out)) : gb102 ≠ gb101)); clear BK101; clear HB; have BK101 := n0_; have HB := n1_; have BK102 := n2_; have GW102 := n3_; have GE102 := n4_; have NB101_102 := n5_; have NB102_101 := n6_; clear n0_ n1_ n2_ n3_ n4_ n5_ n6_; clear hb hbox hg)); go_upto_region 1 with (first | ((with_reducible refine gate_dst (N := 2) rfl ?_); (try (refine gate_guard (by rfl) ?_; dsimp only)); refine box_event ?hg (N := 2) ?hd (cs := #[.int .i64 n0, .slice (some ⟨g, 0, none⟩) l0.length cap]) (t := 24) ?hr ?_; (case hd => rfl); (case hg => rfl); (case hr => first | (go_simp; done) | (go_simp; rfl)); intro gb101 hg w4 hbox hb; have n0_ := Aside0.mk (below_step (by repeat (first | (with_reducible first | exact HB.out | apply below_alloc | apply pw_below_drewN | apply below_drew1) | exact HB.out)) hb); have n1_ := Aside0.mk (hbox); have n2_ := Aside0.mk ((by rw [hg]; exact (below_size (by repeat (first | (with_reducible first | exact HB.out | apply below_alloc | apply pw_below_drewN | apply below_drew1) | exact HB.out))) : w.heap.size ≤ gb101)); have n3_ := Aside0.mk ((by rw [hg]; exact (below_size (by repeat (first | (with_reducible first | exact HB.out | apply below_alloc | apply pw_below_drewN | apply below_drew1) | exact HB.out))) : w.heap.size ≤ gb101)); clear HB; have HB := n0_; have BK101 := n1_; have GW101 := n2_; have GE101 := n3_; clear n0_ n1_ n2_ n3_; clear hb hbox hg) | ((with_reducible refine gate_dst (N := 3) rfl ?_); (try (refine gate_guard (by rfl) ?_; dsimp only)); refine box_event ?hg (N := 3) ?hd (cs := #[.int .i64 n0, .slice A1 l0.length c1]) (t := 24) ?hr ?_; (case hd => rfl); (case hg => rfl); (case hr => first | (go_simp; done) | (go_simp; rfl)); intro gb102 hg w5 hbox hb; have n0_ := Aside0.mk (blk_below (g := gb101) (o := .cells #[.int .i64 n0, .slice (some ⟨g, 0, none⟩) l0.length cap] 24 (0, 0)) (by (with_reducible repeat (first | refine blk_drewN ?_ _ | refine blk_drew ?_ | refine blk_alloc ?_ _)); exact BK101.out) hb); have n1_ := Aside0.mk (below_step (by repeat (first | (with_reducible first | exact HB.out | apply below_alloc | apply pw_below_drewN | apply below_drew1 | refine below_set ?_ GE101.out) | exact HB.out)) hb); have n2_ := Aside0.mk (hbox); have n3_ := Aside0.mk ((by rw [hg]; exact (below_size (by repeat (first | (with_reducible first | exact HB.out | apply below_alloc | apply pw_below_drewN | apply below_drew1 | refine below_set ?_ GE101.out) | exact HB.out))) : w.heap.size ≤ gb102)); have n4_ := Aside0.mk ((by rw [hg]; exact (below_size (by repeat (first | (with_reducible first | exact HB.out | apply below_alloc | apply pw_below_drewN | apply below_drew1 | refine below_set ?_ GE101.out) | exact HB.out))) : w.heap.size ≤ gb102)); have n5_ := Aside0.mk ((by rw [hg]; exact Nat.ne_of_lt (blk_lt (g := gb101) (o := .cells #[.int .i64 n0, .slice (some ⟨g, 0, none⟩) l0.length cap] 24 (0, 0)) (by (with_reducible repeat (first | refine blk_drewN ?_ _ | refine blk_drew ?_ | refine blk_alloc ?_ _)); exact BK101.out)) : gb101 ≠ gb102)); have n6_ := Aside0.mk ((by rw [hg]; exact Nat.ne_of_gt (blk_lt (g := gb101) (o := .cells #[.int .i64 n0, .slice (some ⟨g, 0, none⟩) l0.length cap] 24 (0, 0)) (by (with_reducible repeat (first | refine blk_drewN ?_ _ | refine blk_drew ?_ | refine blk_alloc ?_ _)); exact BK101.out)) : gb102 ≠ gb101)); clear BK101; clear HB; have BK101 := n0_; have HB := n1_; have BK102 := n2_; have GW102 := n3_; have GE102 := n4_; have NB101_102 := n5_; have NB102_101 := n6_; clear n0_ n1_ n2_ n3_ n4_ n5_ n6_; clear hb hbox hg)))
  (try simp only [Act.put, List.setIfInBounds_toArray, List.set_cons_zero, List.set_cons_succ])
  have hcz0_0 : w5.cell? ⟨gb101, 0, none⟩ = some (.int .i64 n0) := (blk_cell BK101.out 0).trans rfl
  have hcz0_1 : w5.cell? ⟨gb101, 1, none⟩ = some (.slice (some ⟨g, 0, none⟩) l0.length cap) := (blk_cell BK101.out 1).trans rfl
  have hfz0_0 := blk_frozen BK101.out 0
  have hfz0_1 := blk_frozen BK101.out 1
  have hcz1_0 : w5.cell? ⟨gb102, 0, none⟩ = some (.int .i64 n0) := (blk_cell BK102.out 0).trans rfl
  have hcz1_1 : w5.cell? ⟨gb102, 1, none⟩ = some (.slice A1 l0.length c1) := (blk_cell BK102.out 1).trans rfl
  have hfz1_0 := blk_frozen BK102.out 0
  have hfz1_1 := blk_frozen BK102.out 1
  go_wp2_with (first
    | ((with_reducible refine gate_callee (f := 20) rfl ?_); refine goesL_ (some 11) rfl rfl Tryd.func20 (by kernel_rfl) rfl #[.agg #[.int .i64 n0, .slice (some ⟨g, 0, none⟩) l0.length cap], .agg #[.int .i64 n0, .slice A1 l0.length c1]] rfl (by (try simp only [List.map_toArray, List.map_cons, List.map_nil]); first | done | rfl) ?_
       (with_reducible refine (slopelaw3_same.calls k n0 _ _ l0 n0 _ _ l0 true _ (Kd.C_below HT.out HB.out) (by omega) (Kd.C_below HR.out HB.out) hc1 HK.out).mono ?_)
       rintro e w' ⟨rfl, hbw⟩
       refine ⟨_, rfl, ?_⟩
       have HB2 := Aside0.mk (below_step HB.out hbw)
       have kb1 := blk_below (g := gb101) BK101.out hbw
       have hcy_1 : w'.cell? ⟨gb101, 1, none⟩ = some (.slice (some ⟨g, 0, none⟩) l0.length cap) := (blk_cell kb1 1).trans rfl
       have hfy_1 := blk_frozen kb1 1
       obtain ⟨ad, ea, hx⟩ := Kd.at_int (Kd.C_below HM.out HB2.out) (l0.length : Int) (by omega) (by omega)
       cases ea
       rw [Int.toNat_natCast, add_plain] at hx
       have hrd : rd (l0 ++ [theMark]) (l0.length : Int) = 8608480567731124087 := by simp [rd, List.getD_eq_getElem?_getD, theMark]
       rw [hrd] at hx
       clear kb1 hbw hrd))
  go_ret
  exact ⟨rfl, HB2.out⟩
end Go.Proofs.YtjmkhdhffmlhiaaDoor.PAll
end
section
namespace Go.Proofs.YtjmkhdhffmlhiaaDoor.PAll
open Go.RowKit Go.Proofs.YtjmkhdhffmlhiaaDoorW.PrintWords Go.Proofs.YtjmkhdhffmlhiaaDoorW.PrintLast Go.Proofs.YtjmkhdhffmlhiaaDoorW.PrintMore
theorem wmarked_reads {W : World} {base g cap : Nat} {ok : Nat → Prop} {l : List Int} {m : Int} (h : Kd.R (Kd.int .u64) 87 W base ok (.slice (some ⟨g, 0, none⟩) (l ++ [m]).length cap) (l ++ [m])) : Kd.C (Kd.int .u64) W (some ⟨g, 0, none⟩) l.length l := by
  have h2 := Kd.C_take (m := l.length) (Kd.R_reads' h).2.2 (by simp)
  simpa using h2
theorem wmarked_fits {W : World} {base g cap : Nat} {ok : Nat → Prop} {l : List Int} {m : Int} (h : Kd.R (Kd.int .u64) 87 W base ok (.slice (some ⟨g, 0, none⟩) (l ++ [m]).length cap) (l ++ [m])) : l.length ≤ cap := by
  have := (Kd.R_reads' h).2.1
  rw [List.length_append] at this
  simp at this
  omega
end Go.Proofs.YtjmkhdhffmlhiaaDoor.PAll
end
section
namespace Go.Proofs.YtjmkhdhffmlhiaaDoor.PAll
open Go.RowKit Go.Proofs.YtjmkhdhffmlhiaaDoorW.PrintWords Go.Proofs.YtjmkhdhffmlhiaaDoorW.PrintLast Go.Proofs.YtjmkhdhffmlhiaaDoorW.PrintMore
attribute [local go_sem] max2_int min2_int max_two min_two max_three min_three max_four min_four w64_u8 w64_mod256   -- for this text's walks alone
set_option linter.unusedVariables false
set_option linter.unusedSimpArgs false
def sloperef3_Has.f (k : Nat) (a0_0 : Int) (l0_1 : List Int) (a1 : Int) : Option (Bool) := (sloperef3_May.f k a0_0 l0_1).bind fun t102 => (if t102 = true then (if a1 ≥ 0 then (if a1 < a0_0 then ((sloperef3_In.f a0_0 l0_1 a1).bind fun t103 => (some t103)) else (some false)) else (some false)) else (some false))
set_option maxHeartbeats 8000000 in
set_option maxRecDepth 100000 in
theorem sloperef3_Has.calls (k : Nat) (a0_0 : Int) (A0_1 : Option Addr) (c0_1 : Nat) (l0_1 : List Int) (a1 : Int) (r : Bool) (w : World) (hr0_1 : Kd.C (Kd.int .u64) w A0_1 l0_1.length l0_1) (hc0_1 : l0_1.length ≤ c0_1) (h : sloperef3_Has.f k a0_0 l0_1 a1 = some r) :
    Calls Tryd.prog 37 #[.agg #[.int .i64 a0_0, .slice A0_1 l0_1.length c0_1], .int .i64 a1] w fun e w' => e = .returned (.bool r) ∧ Below w.heap.size w w' := by
  have hu24 := Tryd.underlying24
  have HR0_1 := Aside0.mk hr0_1
  have HC0_1 := Aside0.mk hc0_1
  clear hr0_1 hc0_1
  have HB := Aside0.mk (Below.refl w.heap.size w)
  have H : ((sloperef3_May.f k a0_0 l0_1).bind fun t102 => (if t102 = true then (if a1 ≥ 0 then (if a1 < a0_0 then ((sloperef3_In.f a0_0 l0_1 a1).bind fun t103 => (some t103)) else (some false)) else (some false)) else (some false))) = some r := h
  clear h
  replace H := Option.bind_eq_some_iff.mp H
  obtain ⟨t102, A30, H⟩ := H
  replace H : (if t102 = true then (if a1 ≥ 0 then (if a1 < a0_0 then ((sloperef3_In.f a0_0 l0_1 a1).bind fun t103 => (some t103)) else (some false)) else (some false)) else (some false)) = some r := H
  have A3 := Aside0.mk A30
  clear A30
  by_cases c4 : t102 = true
  · subst c4
    have H1 : (if a1 ≥ 0 then (if a1 < a0_0 then ((sloperef3_In.f a0_0 l0_1 a1).bind fun t103 => (some t103)) else (some false)) else (some false)) = some r := by rw [if_pos rfl] at H; exact H
    clear H
    have H := H1
    clear H1
    by_cases c5 : a1 ≥ 0
    · rw [if_pos c5] at H
      have c5b0 : decide (0 ≤ a1) = true := decide_eq_true c5
      clear c5
      by_cases c6 : a1 < a0_0
      · rw [if_pos c6] at H
        have c6b0 : decide (a1 < a0_0) = true := decide_eq_true c6
        clear c6
        replace H := Option.bind_eq_some_iff.mp H
        obtain ⟨t103, A70, H⟩ := H
        replace H : (some t103) = some r := H
        have A7 := Aside0.mk A70
        clear A70
        obtain rfl := Option.some.inj H
        go_enter Tryd.func37, Tryd.ntmps37
        go_wp2_with (first | ((with_reducible refine gate_dst (N := 2) rfl ?_); refine box_event ?hg (N := 2) ?hd (cs := #[.int .i64 a0_0, .slice A0_1 l0_1.length c0_1]) (t := 24) ?hr ?_; (case hd => rfl); (case hg => rfl); (case hr => first | (go_simp; done) | (go_simp; rfl)); intro gb101 hg w8 hbox hb; have n0_ := Aside0.mk (below_step (by repeat (first | (with_reducible first | exact HB.out | apply below_alloc | apply pw_below_drewN | apply below_drew1) | exact HB.out)) hb); have n1_ := Aside0.mk (hbox); have n2_ := Aside0.mk ((by rw [hg]; exact (below_size (by repeat (first | (with_reducible first | exact HB.out | apply below_alloc | apply pw_below_drewN | apply below_drew1) | exact HB.out))) : w.heap.size ≤ gb101)); have n3_ := Aside0.mk ((by rw [hg]; exact (below_size (by repeat (first | (with_reducible first | exact HB.out | apply below_alloc | apply pw_below_drewN | apply below_drew1) | exact HB.out))) : w.heap.size ≤ gb101)); clear HB; have HB := n0_; have BK101 := n1_; have GW101 := n2_; have GE101 := n3_; clear n0_ n1_ n2_ n3_; clear hb hbox hg; have hcz9_0 : w8.cell? ⟨gb101, 0, none⟩ = some (.int .i64 a0_0) := (blk_cell BK101.out 0).trans rfl; have hcz9_1 : w8.cell? ⟨gb101, 1, none⟩ = some (.slice A0_1 l0_1.length c0_1) := (blk_cell BK101.out 1).trans rfl; have hfz9_0 := blk_frozen BK101.out 0; have hfz9_1 := blk_frozen BK101.out 1) | ((with_reducible refine gate_callee (f := 63) rfl ?_); refine goesL_ (some 6) rfl rfl Tryd.func63 (by kernel_rfl) rfl #[.agg #[.int .i64 a0_0, .slice A0_1 l0_1.length c0_1]] rfl (by (try simp only [List.map_toArray, List.map_cons, List.map_nil]); first | done | rfl | (simp only [List.length_drop, List.length_take]; rfl)) ?_; (with_reducible refine (sloperef3_May.calls k a0_0 _ _ l0_1 true _ ?side1 ?side2 A3.out).mono ?_); (case side1 => repeat (first | exact (Kd.C_below HR0_1.out HB.out) | (with_reducible refine Kd.C_alloc ?_ _) | (with_reducible refine Kd.C_drewN ?_ _) | (with_reducible refine Kd.C_drew ?_))); (case side2 => exact HC0_1.out); rintro e w10 ⟨rfl, hb⟩; refine ⟨_, rfl, ?_⟩; have n0_ := Aside0.mk (blk_below (g := gb101) (o := .cells #[.int .i64 a0_0, .slice A0_1 l0_1.length c0_1] 24 (0, 0)) (by (with_reducible repeat (first | refine blk_drewN ?_ _ | refine blk_drew ?_ | refine blk_alloc ?_ _)); exact BK101.out) hb); have n1_ := Aside0.mk (below_step (by repeat (first | (with_reducible first | exact HB.out | apply below_alloc | apply pw_below_drewN | apply below_drew1 | refine below_set ?_ GE101.out) | exact HB.out)) hb); clear BK101; clear HB; have BK101 := n0_; have HB := n1_; clear n0_ n1_; (try clear hb); (try clear hb2); (try clear hk); (try clear hi); have hcz11_0 : w10.cell? ⟨gb101, 0, none⟩ = some (.int .i64 a0_0) := (blk_cell BK101.out 0).trans rfl; have hcz11_1 : w10.cell? ⟨gb101, 1, none⟩ = some (.slice A0_1 l0_1.length c0_1) := (blk_cell BK101.out 1).trans rfl; have hfz11_0 := blk_frozen BK101.out 0; have hfz11_1 := blk_frozen BK101.out 1) | (go_at_call 74; (with_reducible refine (sloperef3_In.calls a0_0 _ _ l0_1 a1 t103 _ ?side1 ?side2 A7.out).mono ?_); (case side1 => repeat (first | exact (Kd.C_below HR0_1.out HB.out) | (with_reducible refine Kd.C_alloc ?_ _) | (with_reducible refine Kd.C_drewN ?_ _) | (with_reducible refine Kd.C_drew ?_))); (case side2 => exact HC0_1.out); rintro e w12 ⟨rfl, hb⟩; have n0_ := Aside0.mk (blk_below (g := gb101) (o := .cells #[.int .i64 a0_0, .slice A0_1 l0_1.length c0_1] 24 (0, 0)) (by (with_reducible repeat (first | refine blk_drewN ?_ _ | refine blk_drew ?_ | refine blk_alloc ?_ _)); exact BK101.out) hb); have n1_ := Aside0.mk (below_step (by repeat (first | (with_reducible first | exact HB.out | apply below_alloc | apply pw_below_drewN | apply below_drew1 | refine below_set ?_ GE101.out) | exact HB.out)) hb); clear BK101; clear HB; have BK101 := n0_; have HB := n1_; clear n0_ n1_; (try clear hb); (try clear hb2); (try clear hk); (try clear hi)))
        go_ret
        exact ⟨by first | rfl | (simp [errW_none, errW_some] <;> rfl) | (simp [*, errW_none, errW_some] <;> rfl), by repeat (first | (with_reducible first | exact HB.out | apply below_alloc | apply pw_below_drewN | apply below_drew1 | refine below_set ?_ GE101.out) | exact HB.out)⟩
      · rw [if_neg c6] at H
        have c6b0 : decide (a1 < a0_0) = false := decide_eq_false c6
        clear c6
        obtain rfl := Option.some.inj H
        go_enter Tryd.func37, Tryd.ntmps37
        go_wp2_with (first | ((with_reducible refine gate_dst (N := 2) rfl ?_); refine box_event ?hg (N := 2) ?hd (cs := #[.int .i64 a0_0, .slice A0_1 l0_1.length c0_1]) (t := 24) ?hr ?_; (case hd => rfl); (case hg => rfl); (case hr => first | (go_simp; done) | (go_simp; rfl)); intro gb101 hg w13 hbox hb; have n0_ := Aside0.mk (below_step (by repeat (first | (with_reducible first | exact HB.out | apply below_alloc | apply pw_below_drewN | apply below_drew1) | exact HB.out)) hb); have n1_ := Aside0.mk (hbox); have n2_ := Aside0.mk ((by rw [hg]; exact (below_size (by repeat (first | (with_reducible first | exact HB.out | apply below_alloc | apply pw_below_drewN | apply below_drew1) | exact HB.out))) : w.heap.size ≤ gb101)); have n3_ := Aside0.mk ((by rw [hg]; exact (below_size (by repeat (first | (with_reducible first | exact HB.out | apply below_alloc | apply pw_below_drewN | apply below_drew1) | exact HB.out))) : w.heap.size ≤ gb101)); clear HB; have HB := n0_; have BK101 := n1_; have GW101 := n2_; have GE101 := n3_; clear n0_ n1_ n2_ n3_; clear hb hbox hg; have hcz14_0 : w13.cell? ⟨gb101, 0, none⟩ = some (.int .i64 a0_0) := (blk_cell BK101.out 0).trans rfl; have hcz14_1 : w13.cell? ⟨gb101, 1, none⟩ = some (.slice A0_1 l0_1.length c0_1) := (blk_cell BK101.out 1).trans rfl; have hfz14_0 := blk_frozen BK101.out 0; have hfz14_1 := blk_frozen BK101.out 1) | ((with_reducible refine gate_callee (f := 63) rfl ?_); refine goesL_ (some 6) rfl rfl Tryd.func63 (by kernel_rfl) rfl #[.agg #[.int .i64 a0_0, .slice A0_1 l0_1.length c0_1]] rfl (by (try simp only [List.map_toArray, List.map_cons, List.map_nil]); first | done | rfl | (simp only [List.length_drop, List.length_take]; rfl)) ?_; (with_reducible refine (sloperef3_May.calls k a0_0 _ _ l0_1 true _ ?side1 ?side2 A3.out).mono ?_); (case side1 => repeat (first | exact (Kd.C_below HR0_1.out HB.out) | (with_reducible refine Kd.C_alloc ?_ _) | (with_reducible refine Kd.C_drewN ?_ _) | (with_reducible refine Kd.C_drew ?_))); (case side2 => exact HC0_1.out); rintro e w15 ⟨rfl, hb⟩; refine ⟨_, rfl, ?_⟩; have n0_ := Aside0.mk (blk_below (g := gb101) (o := .cells #[.int .i64 a0_0, .slice A0_1 l0_1.length c0_1] 24 (0, 0)) (by (with_reducible repeat (first | refine blk_drewN ?_ _ | refine blk_drew ?_ | refine blk_alloc ?_ _)); exact BK101.out) hb); have n1_ := Aside0.mk (below_step (by repeat (first | (with_reducible first | exact HB.out | apply below_alloc | apply pw_below_drewN | apply below_drew1 | refine below_set ?_ GE101.out) | exact HB.out)) hb); clear BK101; clear HB; have BK101 := n0_; have HB := n1_; clear n0_ n1_; (try clear hb); (try clear hb2); (try clear hk); (try clear hi); have hcz16_0 : w15.cell? ⟨gb101, 0, none⟩ = some (.int .i64 a0_0) := (blk_cell BK101.out 0).trans rfl; have hcz16_1 : w15.cell? ⟨gb101, 1, none⟩ = some (.slice A0_1 l0_1.length c0_1) := (blk_cell BK101.out 1).trans rfl; have hfz16_0 := blk_frozen BK101.out 0; have hfz16_1 := blk_frozen BK101.out 1))
        go_ret
        exact ⟨by first | rfl | (simp [errW_none, errW_some] <;> rfl) | (simp [*, errW_none, errW_some] <;> rfl), by repeat (first | (with_reducible first | exact HB.out | apply below_alloc | apply pw_below_drewN | apply below_drew1 | refine below_set ?_ GE101.out) | exact HB.out)⟩
    · rw [if_neg c5] at H
      have c5b0 : decide (0 ≤ a1) = false := decide_eq_false c5
      clear c5
      obtain rfl := Option.some.inj H
      go_enter Tryd.func37, Tryd.ntmps37
      go_wp2_with (first | ((with_reducible refine gate_dst (N := 2) rfl ?_); refine box_event ?hg (N := 2) ?hd (cs := #[.int .i64 a0_0, .slice A0_1 l0_1.length c0_1]) (t := 24) ?hr ?_; (case hd => rfl); (case hg => rfl); (case hr => first | (go_simp; done) | (go_simp; rfl)); intro gb101 hg w17 hbox hb; have n0_ := Aside0.mk (below_step (by repeat (first | (with_reducible first | exact HB.out | apply below_alloc | apply pw_below_drewN | apply below_drew1) | exact HB.out)) hb); have n1_ := Aside0.mk (hbox); have n2_ := Aside0.mk ((by rw [hg]; exact (below_size (by repeat (first | (with_reducible first | exact HB.out | apply below_alloc | apply pw_below_drewN | apply below_drew1) | exact HB.out))) : w.heap.size ≤ gb101)); have n3_ := Aside0.mk ((by rw [hg]; exact (below_size (by repeat (first | (with_reducible first | exact HB.out | apply below_alloc | apply pw_below_drewN | apply below_drew1) | exact HB.out))) : w.heap.size ≤ gb101)); clear HB; have HB := n0_; have BK101 := n1_; have GW101 := n2_; have GE101 := n3_; clear n0_ n1_ n2_ n3_; clear hb hbox hg; have hcz18_0 : w17.cell? ⟨gb101, 0, none⟩ = some (.int .i64 a0_0) := (blk_cell BK101.out 0).trans rfl; have hcz18_1 : w17.cell? ⟨gb101, 1, none⟩ = some (.slice A0_1 l0_1.length c0_1) := (blk_cell BK101.out 1).trans rfl; have hfz18_0 := blk_frozen BK101.out 0; have hfz18_1 := blk_frozen BK101.out 1) | ((with_reducible refine gate_callee (f := 63) rfl ?_); refine goesL_ (some 6) rfl rfl Tryd.func63 (by kernel_rfl) rfl #[.agg #[.int .i64 a0_0, .slice A0_1 l0_1.length c0_1]] rfl (by (try simp only [List.map_toArray, List.map_cons, List.map_nil]); first | done | rfl | (simp only [List.length_drop, List.length_take]; rfl)) ?_; (with_reducible refine (sloperef3_May.calls k a0_0 _ _ l0_1 true _ ?side1 ?side2 A3.out).mono ?_); (case side1 => repeat (first | exact (Kd.C_below HR0_1.out HB.out) | (with_reducible refine Kd.C_alloc ?_ _) | (with_reducible refine Kd.C_drewN ?_ _) | (with_reducible refine Kd.C_drew ?_))); (case side2 => exact HC0_1.out); rintro e w19 ⟨rfl, hb⟩; refine ⟨_, rfl, ?_⟩; have n0_ := Aside0.mk (blk_below (g := gb101) (o := .cells #[.int .i64 a0_0, .slice A0_1 l0_1.length c0_1] 24 (0, 0)) (by (with_reducible repeat (first | refine blk_drewN ?_ _ | refine blk_drew ?_ | refine blk_alloc ?_ _)); exact BK101.out) hb); have n1_ := Aside0.mk (below_step (by repeat (first | (with_reducible first | exact HB.out | apply below_alloc | apply pw_below_drewN | apply below_drew1 | refine below_set ?_ GE101.out) | exact HB.out)) hb); clear BK101; clear HB; have BK101 := n0_; have HB := n1_; clear n0_ n1_; (try clear hb); (try clear hb2); (try clear hk); (try clear hi)))
      go_ret
      exact ⟨by first | rfl | (simp [errW_none, errW_some] <;> rfl) | (simp [*, errW_none, errW_some] <;> rfl), by repeat (first | (with_reducible first | exact HB.out | apply below_alloc | apply pw_below_drewN | apply below_drew1 | refine below_set ?_ GE101.out) | exact HB.out)⟩
  · replace c4 := Bool.eq_false_iff.mpr c4
    subst c4
    have H1 : (some false) = some r := by rw [if_neg (show ¬ (false = true) by decide)] at H; exact H
    clear H
    have H := H1
    clear H1
    obtain rfl := Option.some.inj H
    go_enter Tryd.func37, Tryd.ntmps37
    go_wp2_with (first | ((with_reducible refine gate_dst (N := 2) rfl ?_); refine box_event ?hg (N := 2) ?hd (cs := #[.int .i64 a0_0, .slice A0_1 l0_1.length c0_1]) (t := 24) ?hr ?_; (case hd => rfl); (case hg => rfl); (case hr => first | (go_simp; done) | (go_simp; rfl)); intro gb101 hg w20 hbox hb; have n0_ := Aside0.mk (below_step (by repeat (first | (with_reducible first | exact HB.out | apply below_alloc | apply pw_below_drewN | apply below_drew1) | exact HB.out)) hb); have n1_ := Aside0.mk (hbox); have n2_ := Aside0.mk ((by rw [hg]; exact (below_size (by repeat (first | (with_reducible first | exact HB.out | apply below_alloc | apply pw_below_drewN | apply below_drew1) | exact HB.out))) : w.heap.size ≤ gb101)); have n3_ := Aside0.mk ((by rw [hg]; exact (below_size (by repeat (first | (with_reducible first | exact HB.out | apply below_alloc | apply pw_below_drewN | apply below_drew1) | exact HB.out))) : w.heap.size ≤ gb101)); clear HB; have HB := n0_; have BK101 := n1_; have GW101 := n2_; have GE101 := n3_; clear n0_ n1_ n2_ n3_; clear hb hbox hg; have hcz21_0 : w20.cell? ⟨gb101, 0, none⟩ = some (.int .i64 a0_0) := (blk_cell BK101.out 0).trans rfl; have hcz21_1 : w20.cell? ⟨gb101, 1, none⟩ = some (.slice A0_1 l0_1.length c0_1) := (blk_cell BK101.out 1).trans rfl; have hfz21_0 := blk_frozen BK101.out 0; have hfz21_1 := blk_frozen BK101.out 1) | ((with_reducible refine gate_callee (f := 63) rfl ?_); refine goesL_ (some 6) rfl rfl Tryd.func63 (by kernel_rfl) rfl #[.agg #[.int .i64 a0_0, .slice A0_1 l0_1.length c0_1]] rfl (by (try simp only [List.map_toArray, List.map_cons, List.map_nil]); first | done | rfl | (simp only [List.length_drop, List.length_take]; rfl)) ?_; (with_reducible refine (sloperef3_May.calls k a0_0 _ _ l0_1 false _ ?side1 ?side2 A3.out).mono ?_); (case side1 => repeat (first | exact (Kd.C_below HR0_1.out HB.out) | (with_reducible refine Kd.C_alloc ?_ _) | (with_reducible refine Kd.C_drewN ?_ _) | (with_reducible refine Kd.C_drew ?_))); (case side2 => exact HC0_1.out); rintro e w22 ⟨rfl, hb⟩; refine ⟨_, rfl, ?_⟩; have n0_ := Aside0.mk (blk_below (g := gb101) (o := .cells #[.int .i64 a0_0, .slice A0_1 l0_1.length c0_1] 24 (0, 0)) (by (with_reducible repeat (first | refine blk_drewN ?_ _ | refine blk_drew ?_ | refine blk_alloc ?_ _)); exact BK101.out) hb); have n1_ := Aside0.mk (below_step (by repeat (first | (with_reducible first | exact HB.out | apply below_alloc | apply pw_below_drewN | apply below_drew1 | refine below_set ?_ GE101.out) | exact HB.out)) hb); clear BK101; clear HB; have BK101 := n0_; have HB := n1_; clear n0_ n1_; (try clear hb); (try clear hb2); (try clear hk); (try clear hi)))
    go_ret
    exact ⟨by first | rfl | (simp [errW_none, errW_some] <;> rfl) | (simp [*, errW_none, errW_some] <;> rfl), by repeat (first | (with_reducible first | exact HB.out | apply below_alloc | apply pw_below_drewN | apply below_drew1 | refine below_set ?_ GE101.out) | exact HB.out)⟩
end Go.Proofs.YtjmkhdhffmlhiaaDoor.PAll
end
section
namespace Go.Proofs.YtjmkhdhffmlhiaaDoor.PAll
set_option linter.unusedVariables false
set_option linter.unusedSimpArgs false
open Go.RowKit Go.Shelf Go.Proofs.YtjmkhdhffmlhiaaDoorW.PrintWords Go.Proofs.YtjmkhdhffmlhiaaDoorW.PrintLast Go.Proofs.YtjmkhdhffmlhiaaDoorW.PrintMore
attribute [local go_sem] Oper.semAt_some
theorem heard_at (K : Nat → Prop) (gf : Nat) (lb : Array Value) (xs ys : List Int) (most : Int) (m : Nat) (w : World) (hI : Iter K 5 gf lb xs w) (hKl : ∀ k, K k → k < w.heap.size)
    (eg : ∀ args w, (callFunc gf args).run Tryd.prog w = .ok (.enter gf args) w) (hlen : xs.length ≤ 4096) (hy : xs.take most.toNat = ys) (hm : ys.length = m) :
    Calls Tryd.prog 41 #[.func (.func gf) #[] lb, .int .i64 most] w fun e w' => ∃ (A : Option Addr) (c : Nat), e = .returned (.tuple #[.slice A m c, .bool true]) ∧ Kd.C (Kd.int .i64) w' A m ys ∧ m ≤ c ∧ Below w.heap.size w w' := by
  subst hy hm
  refine (heard_calls K gf lb xs most w hI hKl eg hlen).mono ?_
  rintro e w' ⟨v, rfl, hR, hb⟩
  obtain ⟨A, c, ev⟩ := Kd.R_slice hR
  subst ev
  exact ⟨A, c, rfl, (Kd.R_reads' hR).2.2, (Kd.R_reads' hR).2.1, hb⟩
theorem rev_at {xs : List Int} {k : Nat} (h : k < xs.length) : rd xs.reverse ((xs.length : Int) - 1 - (k : Int)) = xs.getD k 0 := by
  unfold rd
  rw [show ((xs.length : Int) - 1 - (k : Int)).toNat = xs.length - 1 - k by omega, List.getD_eq_getElem?_getD, List.getD_eq_getElem?_getD, List.getElem?_reverse (by omega), show xs.length - 1 - (xs.length - 1 - k) = k by omega]
def ElI (wk : World) (n : Nat) (W : World) : Prop := (W.heap[wk.heap.size]? = some (.cells #[.int .i64 n] 3 (0, 0)) ∧ wk.heap.size + 1 ≤ W.heap.size) ∧ Below wk.heap.size wk W
def ElX (wk : World) (xs : List Int) (c : Code) (pre : List Int) (W : World) : Prop := (c = .exit 0 ∧ Below wk.heap.size wk W) ∨ (c = .ret ∧ ¬ (pre <+: xs))
theorem ElI.from (wk : World) {α : Type} {B : Nat} (hB : wk.heap.size ≤ B) : OwnFrom B (fun (pre : List α) W => ElI wk pre.length W) :=
  OwnFrom.and (OwnFrom.and (fun _ X Y row hs hg hr => blk_abide hs hg hr) (fun _ _ _ _ hs hg _ => Nat.le_trans hs hg.size)) (ownFrom_below (Nat.le_refl _) hB)
theorem ElX.from (wk : World) (xs : List Int) {α : Type} (f : List α → List Int) {B : Nat} (hB : wk.heap.size ≤ B) (c : Code) : OwnFrom B (fun (pre : List α) W => ElX wk xs c (f pre) W) :=
  fun pre X Y row hs hg hr => hs.imp (fun ⟨h1, h2⟩ => ⟨h1, ownFrom_below (β := Unit) (Nat.le_refl _) hB () X Y row h2 hg hr⟩) id
theorem not_pre {xs : List Int} {pre : List { x : Int // x ∈ xs }} {x : { x : Int // x ∈ xs }} {v : Int} (hv : xs.getD pre.length 0 = v) (h : v ≠ x.1) : ¬ ((pre ++ [x]).map (·.1) <+: xs) := by
  rintro ⟨t, ht⟩
  apply h
  have h2 : ((pre ++ [x]).map (·.1) ++ t).getD pre.length 0 = xs.getD pre.length 0 := congrArg (fun l : List Int => l.getD pre.length 0) ht
  rw [hv] at h2
  rw [← h2]
  simp
theorem same_at (k : Nat) (A0 : Option Addr) (c0 : Nat) (l0 : List Int) (A1 : Option Addr) (c1 : Nat) (l1 : List Int) (m0 m1 : Nat) (w : World) (h0 : l0.length = m0) (h1 : l1.length = m1) (hr0 : Kd.C (Kd.int .i64) w A0 l0.length l0) (hc0 : l0.length ≤ c0) (hr1 : Kd.C (Kd.int .i64) w A1 l1.length l1) (hc1 : l1.length ≤ c1) (h : slopelaw3_sameInts.f k l0 l1 = some true) :
    Calls Tryd.prog 38 #[.slice A0 m0 c0, .slice A1 m1 c1] w fun e w' => e = .returned (.bool true) ∧ Below w.heap.size w w' := by
  subst h0 h1
  exact (slopelaw3_sameInts.calls k A0 c0 l0 A1 c1 l1 true w hr0 hc0 hr1 hc1 h).mono (fun e w' ⟨he, hd⟩ => ⟨he, hd.below⟩)
theorem rev_at2 {xs : List Int} {j : Nat} (h : j < xs.length) : rd xs.reverse (j : Int) = rd xs ((xs.length : Int) - 1 - (j : Int)) := by
  rw [rd_nat]
  unfold rd
  rw [show ((xs.length : Int) - 1 - (j : Int)).toNat = xs.length - 1 - j by omega, List.getD_eq_getElem?_getD, List.getD_eq_getElem?_getD, List.getElem?_reverse (by omega)]
theorem wrap_in {x : Int} (h : -9223372036854775808 ≤ x) (g : x ≤ 9223372036854775807) : IntKind.i64.wrap x = x := by
  rw [IntKind.wrap_i64]
  omega
theorem el_measure {n j : Nat} (h : j < n) : n - (intOf (.int .i64 ((j : Int) + 1))).toNat < n - (intOf (.int .i64 (j : Int))).toNat := by
  simp only [intOf]
  omega
theorem el_next {α : Type} {B : Nat} {K : Nat → Prop} {n5 : Nat} {wk W wm : World} {Ix : Code → List α → World → Prop} {pre : List α} {x : α} (a : Act) (hKO : KeepsOthers W wm) (hB2 : Below W.heap.size W wm)
    (hK : wm.heap[wk.heap.size]? = some (.cells #[.int .i64 pre.length] 3 (0, 0))) (hBW : Below wk.heap.size wk wm) (hsz : wk.heap.size + 1 ≤ W.heap.size) (hl : ∀ k, K k → k < n5) (h5 : n5 ≤ wk.heap.size) :
    ownPostG B (Ke K) (fun (pre : List α) W => ElI wk pre.length W) Ix (pre ++ [x]) W .normal a (wm.setCell ⟨wk.heap.size, 0, none⟩ (.int .i64 ((pre.length : Int) + 1))) := by
  have hX1 := blk_put hK 0 (Value.int IntKind.i64 ((pre.length : Int) + 1)) rfl
  have hX2 := below_set (g := wk.heap.size) (j := 0) (v := Value.int IntKind.i64 ((pre.length : Int) + 1)) hBW (Nat.le_refl _)
  refine ⟨(hKO.trans (KeepsOthers.setCell _ _ _)).from _, fun k hk => ?_, ⟨?_, ?_⟩, hX2⟩
  · have h1 := hl k hk
    exact (Below.heap_setCell _ _ _ k (by dsimp only; omega)).trans (hB2.block k (by omega))
  · rw [List.length_append]; exact hX1
  · rw [World.size_setCell]; have := hB2.size; omega
theorem el_exit {α : Type} {B : Nat} {Kp : World → World → Prop} {I : List α → World → Prop} {wk W wm : World} {xs : List Int} {f : List α → List Int} {ys : List α} (a : Act) {v : Value} (hKO : KeepsOthers W wm) (hBW : Below wk.heap.size wk wm) :
    ownPostG B Kp I (fun c (pre : List α) W => ElX wk xs c (f pre) W) ys W (.exit 0) a (wm.setCell ⟨wk.heap.size, 0, none⟩ v) :=
  ⟨(hKO.trans (KeepsOthers.setCell _ _ _)).from _, .inl ⟨rfl, below_set (g := wk.heap.size) (j := 0) hBW (Nat.le_refl _)⟩⟩
theorem el_ret {α : Type} {B : Nat} {Kp : World → World → Prop} {I : List α → World → Prop} {wk W wm : World} {xs : List Int} {f : List α → List Int} {ys : List α} (a : Act) {p : Addr} {v : Value} (hKO : KeepsOthers W wm) (hn : ¬ (f ys <+: xs)) :
    ownPostG B Kp I (fun c (pre : List α) W => ElX wk xs c (f pre) W) ys W .ret a (wm.setCell p v) :=
  ⟨(hKO.trans (KeepsOthers.setCell _ _ _)).from _, .inr ⟨rfl, hn⟩⟩
theorem range_own {α : Type} {P : Program} {g : Operand} {p q : Tmp} {assign body : Code} {Q : Exit → Act → World → Prop} {tmps : Array Value} {w : World} {gf : Nat} {lb : Array Value}
    (hg : ({ tmps := tmps, defers := [] } : Act).eval g = .func (.func gf) #[] lb) (eg : ∀ args w, (callFunc gf args).run P w = .ok (.enter gf args) w)
    {v : α → Value} {Kp : World → World → Prop} {S Sp : List α → Prop} {N : Nat} {w0 : World} (hseq : SeqStopsK Fence.wide 5 P gf lb (fun x => #[v x]) Kp S Sp N w0)
    (hKt : ∀ {A B C : World}, Kp A B → Kp B C → Kp A C) (hKb : ∀ (W : World) (l : Nat) (o o' : Obj), w.heap.size ≤ l → W.heap[l]? = some o → o.isCells = false → o.isWalk = false → Kp W (W.putObj l o')) (hb0 : Below w0.heap.size w0 w)
    (I : List α → World → Prop) (Ix : Code → List α → World → Prop) (hI : OwnFrom w.heap.size I) (hIx : ∀ c, OwnFrom w.heap.size (Ix c)) (h0 : I [] w)
    (hassign : ∀ (l : Nat) (x : α) (W : World) (K : Act → World → Prop), K { tmps := (tmps.setIfInBounds p (v x)).setIfInBounds q (v x), defers := [] } W →
      assign.wpIn (Fence.wide.inRound l) 4 P (Exit.then K (fun _ _ _ => False)) { tmps := tmps.setIfInBounds p (v x), defers := [] } W)
    (hbody : ∀ (l : Nat) (pre : List α) (x : α) (W : World), I pre W → pre.length < N → body.wpIn (Fence.wide.inRound l) 4 P (ownPostG w.heap.size Kp I Ix (pre ++ [x]) W) { tmps := (tmps.setIfInBounds p (v x)).setIfInBounds q (v x), defers := [] } W)
    (hdone : ∀ (D : Nat) (xs : List α) (W : World), w.heap.size ≤ D → S xs → I xs W → W.heap[D]? = some (.deferred (some [])) → Q .normal { tmps := tmps, defers := [{ target := .collected D, args := #[] }] } W)
    (hstop : ∀ (D : Nat) (c : Code) (pre : List α) (W : World), w.heap.size ≤ D → Sp pre → Ix c pre W → W.heap[D]? = some (.deferred (some [])) → c.wpIn Fence.wide 6 P Q { tmps := tmps, defers := [{ target := .collected D, args := #[] }] } W) :
    (Code.rangeFunc g #[p] assign body).wpIn Fence.wide 6 P Q { tmps := tmps, defers := [] } w :=
  wpIn_rangeFunc_ownG rfl (by decide) hg trivial eg hseq hKt hKb hb0 (fun _ => rfl) I Ix hI hIx h0 (fun x => { tmps := (tmps.setIfInBounds p (v x)).setIfInBounds q (v x), defers := [] })
    (fun l x W K hK => by
      have e : (#[p].zip #[v x]).foldl (fun t (x : Tmp × Value) => t.setIfInBounds x.1 x.2) tmps = tmps.setIfInBounds p (v x) := by simp
      have h := hassign l x W K hK
      rw [← e] at h
      exact h) hbody hdone hstop
set_option maxHeartbeats 8000000 in
set_option maxRecDepth 100000 in
theorem BitElements_neg (kE kH kC kS : Nat) (n0 : Int) (A0 : Option Addr) (c0 : Nat) (l0 : List Int) (el stop : Int) (w : World) (hr0 : Kd.C (Kd.int .u64) w A0 l0.length l0) (hc0 : l0.length ≤ c0) (hn0 : l0.length * 8 ≤ 140737488351232) (hG : Tz w) (r xs : List Int) (bh : Bool)
    (ho : bitset_own.f n0 l0 = some r) (hw : Wds r) (h64 : r.length ≤ 64) (hx : els (64 * r.length) r = xs) (hE : sloperef3_Elements.f kE n0 l0 = some xs) (hH : bitset_Has.f n0 l0 el = some bh) (hH2 : sloperef3_Has.f kH n0 l0 el = some bh) (hC : bitset_Count.f kC n0 l0 = some (xs.length : Int)) (hS : slopelaw3_sameInts.f kS xs xs = some true) (hst : stop < 0) :
    Calls Tryd.prog 6 #[.agg #[.int .i64 n0, .slice A0 l0.length c0], .int .i64 el, .int .i64 stop] w fun e w' => e = .returned (.bool true) ∧ Below w.heap.size w w' := by
  have hu24 := Tryd.underlying24
  have hu49 := Tryd.underlying49
  have hd : decide (stop < 0) = true := decide_eq_true hst
  have HC := Aside0.mk hr0
  have HG := Aside0.mk hG
  have HO := Aside0.mk ho; have HX := Aside0.mk hx; have HE := Aside0.mk hE; have HH := Aside0.mk hH; have HH2 := Aside0.mk hH2; have HCn := Aside0.mk hC; have HSm := Aside0.mk hS
  clear hr0 hG ho hx hE hH hH2 hC hS
  obtain ⟨o1, ho1⟩ : ∃ o1 : Obj, o1 = .cells #[.int .i64 n0, .slice A0 l0.length c0] 24 (0, 0) := ⟨_, rfl⟩
  obtain ⟨o2, ho2⟩ : ∃ o2 : Obj, o2 = .cells #[.bool false] 4 (0, 0) := ⟨_, rfl⟩
  have K0 : ((w.alloc o1).alloc o2).heap[w.heap.size]? = some o1 := blk_alloc (blk_new w o1) _
  have K1 : ((w.alloc o1).alloc o2).heap[w.heap.size + 1]? = some o2 := by have := blk_new (w.alloc o1) o2; rwa [World.size_alloc] at this
  have HB0 : Below w.heap.size w ((w.alloc o1).alloc o2) := below_alloc (below_alloc (Below.refl _ _) _) _
  rw [ho1, ho2] at K0 K1 HB0
  clear ho1 ho2 o1 o2
  have KA := Aside0.mk K0
  have KR := Aside0.mk K1
  have HB := Aside0.mk HB0
  clear K0 K1 HB0
  refine (callsIn_wide (n := 6)).1 ?_
  refine callsIn_of_wp_marks Tryd.func6 rfl trivial ?_ rfl
  simp only [Tryd.ntmps6, List.size_toArray, List.length_cons, List.length_nil, Nat.reduceAdd, Nat.reduceSub, Array.replicate_succ, Array.replicate_zero, List.push_toArray, List.append_toArray, List.nil_append, List.cons_append]
  have qKA0 := (blk_cell KA.out 0).trans rfl; have qKA1 := (blk_cell KA.out 1).trans rfl
  gi_wp2_with fail
  refine ⟨trivial, ?_⟩; gi_at_call 14
  refine (callsIn_wide.2 (twin_marked n0 A0 c0 l0 _ (Kd.C_below HC.out HB.out) hc0 hn0)).mono ?_
  rintro e w1 ⟨gT, capT, rfl, ho, hb⟩
  clear qKA0 qKA1
  have mHT := Aside0.mk ho; clear ho
  have nKA_ := Aside0.mk (blk_below KA.out hb)
  have nKR_ := Aside0.mk (blk_below KR.out hb)
  have nHB_ := Aside0.mk (below_step HB.out hb)
  clear KA KR HB
  have KA := nKA_; have KR := nKR_; have HB := nHB_
  clear nKA_ nKR_ nHB_
  clear hb; have HT := mHT; clear mHT
  have xKT := Aside0.mk (blk_new w1 (.cells #[.int .i64 n0, .slice (some ⟨gT, 0, none⟩) l0.length capT] 24 (0, 0)))
  have nKA_ := Aside0.mk (blk_alloc KA.out (.cells #[.int .i64 n0, .slice (some ⟨gT, 0, none⟩) l0.length capT] 24 (0, 0)))
  have nKR_ := Aside0.mk (blk_alloc KR.out (.cells #[.int .i64 n0, .slice (some ⟨gT, 0, none⟩) l0.length capT] 24 (0, 0)))
  have nHB_ := Aside0.mk (below_alloc HB.out (.cells #[.int .i64 n0, .slice (some ⟨gT, 0, none⟩) l0.length capT] 24 (0, 0)))
  have nHT_ := Aside0.mk (Kd.R_alloc HT.out (.cells #[.int .i64 n0, .slice (some ⟨gT, 0, none⟩) l0.length capT] 24 (0, 0)))
  clear KA KR HB HT
  have KA := nKA_; have KR := nKR_; have HB := nHB_; have HT := nHT_
  clear nKA_ nKR_ nHB_ nHT_
  have KT := xKT; clear xKT
  have lT := Aside0.mk (wmarked_fits HT.out)
  have qKA0 := (blk_cell KA.out 0).trans rfl; have qKA1 := (blk_cell KA.out 1).trans rfl
  gi_wp2_with fail
  refine ⟨trivial, ?_⟩; gi_at_call 35
  refine (callsIn_wide.2 (sloperef3_Elements.calls kE n0 _ _ l0 xs _ (Kd.C_below HC.out HB.out) hc0 HE.out)).mono ?_
  rintro e w2 ⟨vW, rfl, ho, hb⟩
  clear qKA0 qKA1
  obtain ⟨AW, cW, ev⟩ := Kd.R_slice ho; subst ev
  have lW := Aside0.mk (Kd.R_reads' ho).2.1; have mW := Aside0.mk (Kd.R_reads' ho).2.2; clear ho
  have nKA_ := Aside0.mk (blk_below KA.out hb)
  have nKR_ := Aside0.mk (blk_below KR.out hb)
  have nHB_ := Aside0.mk (below_step HB.out hb)
  have nHT_ := Aside0.mk (Kd.R_below HT.out hb)
  have nKT_ := Aside0.mk (blk_below KT.out hb)
  clear KA KR HB HT KT
  have KA := nKA_; have KR := nKR_; have HB := nHB_; have HT := nHT_; have KT := nKT_
  clear nKA_ nKR_ nHB_ nHT_ nKT_
  clear hb; have QW := mW; clear mW
  have xKW := Aside0.mk (blk_new w2 (.cells #[.slice AW xs.length cW] 25 (0, 0)))
  have nKA_ := Aside0.mk (blk_alloc KA.out (.cells #[.slice AW xs.length cW] 25 (0, 0)))
  have nKR_ := Aside0.mk (blk_alloc KR.out (.cells #[.slice AW xs.length cW] 25 (0, 0)))
  have nHB_ := Aside0.mk (below_alloc HB.out (.cells #[.slice AW xs.length cW] 25 (0, 0)))
  have nHT_ := Aside0.mk (Kd.R_alloc HT.out (.cells #[.slice AW xs.length cW] 25 (0, 0)))
  have nKT_ := Aside0.mk (blk_alloc KT.out (.cells #[.slice AW xs.length cW] 25 (0, 0)))
  have nQW_ := Aside0.mk (Kd.C_alloc QW.out (.cells #[.slice AW xs.length cW] 25 (0, 0)))
  clear KA KR HB HT KT QW
  have KA := nKA_; have KR := nKR_; have HB := nHB_; have HT := nHT_; have KT := nKT_; have QW := nQW_
  clear nKA_ nKR_ nHB_ nHT_ nKT_ nQW_
  have KW := xKW; clear xKW
  have qKW0 := (blk_cell KW.out 0).trans rfl
  have y1_ : ((w2.alloc (.cells #[.slice AW xs.length cW] 25 (0, 0))).alloc (.cells #[.int .i64 xs.length] 3 (0, 0))).heap[w2.heap.size + 1]? = some (.cells #[.int .i64 xs.length] 3 (0, 0)) := by have := blk_new (w2.alloc (.cells #[.slice AW xs.length cW] 25 (0, 0))) (.cells #[.int .i64 xs.length] 3 (0, 0)); rwa [World.size_alloc] at this
  have xKN := Aside0.mk y1_; clear y1_
  have nKA_ := Aside0.mk (blk_alloc KA.out (.cells #[.int .i64 xs.length] 3 (0, 0)))
  have nKR_ := Aside0.mk (blk_alloc KR.out (.cells #[.int .i64 xs.length] 3 (0, 0)))
  have nHB_ := Aside0.mk (below_alloc HB.out (.cells #[.int .i64 xs.length] 3 (0, 0)))
  have nHT_ := Aside0.mk (Kd.R_alloc HT.out (.cells #[.int .i64 xs.length] 3 (0, 0)))
  have nKT_ := Aside0.mk (blk_alloc KT.out (.cells #[.int .i64 xs.length] 3 (0, 0)))
  have nQW_ := Aside0.mk (Kd.C_alloc QW.out (.cells #[.int .i64 xs.length] 3 (0, 0)))
  have nKW_ := Aside0.mk (blk_alloc KW.out (.cells #[.int .i64 xs.length] 3 (0, 0)))
  clear KA KR HB HT KT QW KW
  have KA := nKA_; have KR := nKR_; have HB := nHB_; have HT := nHT_; have KT := nKT_; have QW := nQW_; have KW := nKW_
  clear nKA_ nKR_ nHB_ nHT_ nKT_ nQW_ nKW_
  have KN := xKN; clear xKN
  clear qKW0
  have qKT0 := (blk_cell KT.out 0).trans rfl; have qKT1 := (blk_cell KT.out 1).trans rfl
  gi_wp2_with fail
  refine ⟨trivial, ?_⟩; gi_at_call 36
  refine (callsIn_wide.2 (Elements_calls n0 _ _ l0 r _ (wmarked_reads HT.out) lT.out HO.out hw h64 (tz_at HG.out HB.out))).mono ?_
  rintro e w3 ⟨vL, rfl, ho, hb⟩
  clear qKT0 qKT1
  rw [HX.out] at ho
  obtain ⟨AL, cL, ev⟩ := Kd.R_slice ho; subst ev
  have lL := Aside0.mk (Kd.R_reads' ho).2.1; have mL := Aside0.mk (Kd.R_reads' ho).2.2; clear ho
  have nKA_ := Aside0.mk (blk_below KA.out hb)
  have nKR_ := Aside0.mk (blk_below KR.out hb)
  have nHB_ := Aside0.mk (below_step HB.out hb)
  have nHT_ := Aside0.mk (Kd.R_below HT.out hb)
  have nKT_ := Aside0.mk (blk_below KT.out hb)
  have nQW_ := Aside0.mk (Kd.C_below QW.out hb)
  have nKW_ := Aside0.mk (blk_below KW.out hb)
  have nKN_ := Aside0.mk (blk_below KN.out hb)
  clear KA KR HB HT KT QW KW KN
  have KA := nKA_; have KR := nKR_; have HB := nHB_; have HT := nHT_; have KT := nKT_; have QW := nQW_; have KW := nKW_; have KN := nKN_
  clear nKA_ nKR_ nHB_ nHT_ nKT_ nQW_ nKW_ nKN_
  clear hb; have QL := mL; clear mL
  gi_wp2_with fail
  refine wpIn_wide.2 ?_
  have HR5 := Aside0.mk (Below.refl w3.heap.size w3)
  go_region_held3 (fun w' => w'.cell? ⟨w1.heap.size, 0, none⟩ = some (.int .i64 n0) ∧ w'.cell? ⟨w1.heap.size, 1, none⟩ = some (.slice (some ⟨gT, 0, none⟩) l0.length capT) ∧ w'.cell? ⟨w.heap.size, 0, none⟩ = some (.int .i64 n0) ∧ w'.cell? ⟨w.heap.size, 1, none⟩ = some (.slice A0 l0.length c0) ∧ w'.cell? ⟨w2.heap.size + 1, 0, none⟩ = some (.int .i64 xs.length) ∧ w'.cell? ⟨w2.heap.size, 0, none⟩ = some (.slice AW xs.length cW))
    (exact ⟨(blk_cell (blk_below KT.out (by repeat (first | (with_reducible first | exact HR5.out | apply below_alloc | apply pw_below_drewN | apply below_drew1) | exact HR5.out))) 0).trans rfl, (blk_cell (blk_below KT.out (by repeat (first | (with_reducible first | exact HR5.out | apply below_alloc | apply pw_below_drewN | apply below_drew1) | exact HR5.out))) 1).trans rfl, (blk_cell (blk_below KA.out (by repeat (first | (with_reducible first | exact HR5.out | apply below_alloc | apply pw_below_drewN | apply below_drew1) | exact HR5.out))) 0).trans rfl, (blk_cell (blk_below KA.out (by repeat (first | (with_reducible first | exact HR5.out | apply below_alloc | apply pw_below_drewN | apply below_drew1) | exact HR5.out))) 1).trans rfl, (blk_cell (blk_below KN.out (by repeat (first | (with_reducible first | exact HR5.out | apply below_alloc | apply pw_below_drewN | apply below_drew1) | exact HR5.out))) 0).trans rfl, (blk_cell (blk_below KW.out (by repeat (first | (with_reducible first | exact HR5.out | apply below_alloc | apply pw_below_drewN | apply below_drew1) | exact HR5.out))) 0).trans rfl⟩)
    (first
      | (go_at_call 34; (with_reducible refine (bitset_Has.calls n0 _ _ l0 el bh _ (wmarked_reads (Kd.R_below HT.out (by repeat (first | (with_reducible first | exact HR5.out | apply below_alloc | apply pw_below_drewN | apply below_drew1) | exact HR5.out)))) lT.out HH.out).mono ?_); rintro e w4 ⟨rfl, hb5⟩; have n0_ := Aside0.mk (below_step (by repeat (first | (with_reducible first | exact HR5.out | apply below_alloc | apply pw_below_drewN | apply below_drew1) | exact HR5.out)) hb5); clear HR5 hb5; have HR5 := n0_; clear n0_)
      | (go_at_call 37; (with_reducible refine (sloperef3_Has.calls kH n0 _ _ l0 el bh _ (Kd.C_below HC.out (below_step HB.out (by repeat (first | (with_reducible first | exact HR5.out | apply below_alloc | apply pw_below_drewN | apply below_drew1) | exact HR5.out)))) hc0 HH2.out).mono ?_); rintro e w4 ⟨rfl, hb5⟩; have n0_ := Aside0.mk (below_step (by repeat (first | (with_reducible first | exact HR5.out | apply below_alloc | apply pw_below_drewN | apply below_drew1) | exact HR5.out)) hb5); clear HR5 hb5; have HR5 := n0_; clear n0_)
      | (go_at_call 33; (with_reducible refine (bitset_Count.calls kC n0 _ _ l0 xs.length _ (wmarked_reads (Kd.R_below HT.out (by repeat (first | (with_reducible first | exact HR5.out | apply below_alloc | apply pw_below_drewN | apply below_drew1) | exact HR5.out)))) lT.out HCn.out).mono ?_); rintro e w4 ⟨rfl, hb5⟩; have n0_ := Aside0.mk (below_step (by repeat (first | (with_reducible first | exact HR5.out | apply below_alloc | apply pw_below_drewN | apply below_drew1) | exact HR5.out)) hb5); clear HR5 hb5; have HR5 := n0_; clear n0_)
      | (go_at_call 38; (with_reducible refine (slopelaw3_sameInts.calls kS _ _ xs _ _ xs true _ (Kd.C_below QL.out (by repeat (first | (with_reducible first | exact HR5.out | apply below_alloc | apply pw_below_drewN | apply below_drew1) | exact HR5.out))) lL.out (Kd.C_below QW.out (by repeat (first | (with_reducible first | exact HR5.out | apply below_alloc | apply pw_below_drewN | apply below_drew1) | exact HR5.out))) lW.out HSm.out).mono ?_); rintro e w4 ⟨rfl, hb5⟩; replace hb5 := hb5.below; have n0_ := Aside0.mk (below_step (by repeat (first | (with_reducible first | exact HR5.out | apply below_alloc | apply pw_below_drewN | apply below_drew1) | exact HR5.out)) hb5); clear HR5 hb5; have HR5 := n0_; clear n0_))
  have hb := HR5.out; clear HR5
  have nKA_ := Aside0.mk (blk_below KA.out hb)
  have nKR_ := Aside0.mk (blk_below KR.out hb)
  have nHB_ := Aside0.mk (below_step HB.out hb)
  have nHT_ := Aside0.mk (Kd.R_below HT.out hb)
  have nKT_ := Aside0.mk (blk_below KT.out hb)
  have nQW_ := Aside0.mk (Kd.C_below QW.out hb)
  have nKW_ := Aside0.mk (blk_below KW.out hb)
  have nKN_ := Aside0.mk (blk_below KN.out hb)
  have nQL_ := Aside0.mk (Kd.C_below QL.out hb)
  clear KA KR HB HT KT QW KW KN QL
  have KA := nKA_; have KR := nKR_; have HB := nHB_; have HT := nHT_; have KT := nKT_; have QW := nQW_; have KW := nKW_; have KN := nKN_; have QL := nQL_
  clear nKA_ nKR_ nHB_ nHT_ nKT_ nQW_ nKW_ nKN_ nQL_
  clear hb
  have qKT0 := (blk_cell KT.out 0).trans rfl; have qKT1 := (blk_cell KT.out 1).trans rfl
  gi_wp2_with fail
  refine ⟨trivial, ?_⟩; gi_at_call 39
  refine (callsIn_wide.2 (All_iter n0 _ _ l0 r _ (wmarked_reads HT.out) lT.out HO.out hw h64 (tz_at HG.out HB.out))).mono ?_
  rintro e w5 ⟨lbA, KIA, rfl, hI, hKin, hb⟩
  clear qKT0 qKT1
  rw [HX.out] at hI; have IA := Aside0.mk hI; have lIA := Aside0.mk (fun k hk => (hKin k hk).1); clear hI hKin
  have nKA_ := Aside0.mk (blk_below KA.out hb)
  have nKR_ := Aside0.mk (blk_below KR.out hb)
  have nHB_ := Aside0.mk (below_step HB.out hb)
  have nHT_ := Aside0.mk (Kd.R_below HT.out hb)
  have nKT_ := Aside0.mk (blk_below KT.out hb)
  have nQW_ := Aside0.mk (Kd.C_below QW.out hb)
  have nKW_ := Aside0.mk (blk_below KW.out hb)
  have nKN_ := Aside0.mk (blk_below KN.out hb)
  have nQL_ := Aside0.mk (Kd.C_below QL.out hb)
  clear KA KR HB HT KT QW KW KN QL
  have KA := nKA_; have KR := nKR_; have HB := nHB_; have HT := nHT_; have KT := nKT_; have QW := nQW_; have KW := nKW_; have KN := nKN_; have QL := nQL_
  clear nKA_ nKR_ nHB_ nHT_ nKT_ nQW_ nKW_ nKN_ nQL_
  clear hb
  have HBA := Aside0.mk (Below.refl w5.heap.size w5)
  have xKALL := Aside0.mk (blk_new w5 (.cells #[.func (.func 82) #[] lbA] 49 (0, 0)))
  have nKA_ := Aside0.mk (blk_alloc KA.out (.cells #[.func (.func 82) #[] lbA] 49 (0, 0)))
  have nKR_ := Aside0.mk (blk_alloc KR.out (.cells #[.func (.func 82) #[] lbA] 49 (0, 0)))
  have nHB_ := Aside0.mk (below_alloc HB.out (.cells #[.func (.func 82) #[] lbA] 49 (0, 0)))
  have nHT_ := Aside0.mk (Kd.R_alloc HT.out (.cells #[.func (.func 82) #[] lbA] 49 (0, 0)))
  have nKT_ := Aside0.mk (blk_alloc KT.out (.cells #[.func (.func 82) #[] lbA] 49 (0, 0)))
  have nQW_ := Aside0.mk (Kd.C_alloc QW.out (.cells #[.func (.func 82) #[] lbA] 49 (0, 0)))
  have nKW_ := Aside0.mk (blk_alloc KW.out (.cells #[.func (.func 82) #[] lbA] 49 (0, 0)))
  have nKN_ := Aside0.mk (blk_alloc KN.out (.cells #[.func (.func 82) #[] lbA] 49 (0, 0)))
  have nQL_ := Aside0.mk (Kd.C_alloc QL.out (.cells #[.func (.func 82) #[] lbA] 49 (0, 0)))
  have nHBA_ := Aside0.mk (below_alloc HBA.out (.cells #[.func (.func 82) #[] lbA] 49 (0, 0)))
  clear KA KR HB HT KT QW KW KN QL HBA
  have KA := nKA_; have KR := nKR_; have HB := nHB_; have HT := nHT_; have KT := nKT_; have QW := nQW_; have KW := nKW_; have KN := nKN_; have QL := nQL_; have HBA := nHBA_
  clear nKA_ nKR_ nHB_ nHT_ nKT_ nQW_ nKW_ nKN_ nQL_ nHBA_
  have KALL := xKALL; clear xKALL
  have qKT0 := (blk_cell KT.out 0).trans rfl; have qKT1 := (blk_cell KT.out 1).trans rfl
  gi_wp2_with fail
  refine ⟨trivial, ?_⟩; gi_at_call 40
  refine (callsIn_wide.2 (Falling_iter n0 _ _ l0 r _ (wmarked_reads HT.out) lT.out HO.out hw h64 (tz_at HG.out HB.out))).mono ?_
  rintro e w6 ⟨lbF, KIF, rfl, hI, hKin, hb⟩
  clear qKT0 qKT1
  rw [HX.out] at hI; have IF := Aside0.mk hI; have lIF := Aside0.mk (fun k hk => (hKin k hk).1); clear hI hKin
  have nKA_ := Aside0.mk (blk_below KA.out hb)
  have nKR_ := Aside0.mk (blk_below KR.out hb)
  have nHB_ := Aside0.mk (below_step HB.out hb)
  have nHT_ := Aside0.mk (Kd.R_below HT.out hb)
  have nKT_ := Aside0.mk (blk_below KT.out hb)
  have nQW_ := Aside0.mk (Kd.C_below QW.out hb)
  have nKW_ := Aside0.mk (blk_below KW.out hb)
  have nKN_ := Aside0.mk (blk_below KN.out hb)
  have nQL_ := Aside0.mk (Kd.C_below QL.out hb)
  have nHBA_ := Aside0.mk (below_step HBA.out hb)
  have nKALL_ := Aside0.mk (blk_below KALL.out hb)
  clear KA KR HB HT KT QW KW KN QL HBA KALL
  have KA := nKA_; have KR := nKR_; have HB := nHB_; have HT := nHT_; have KT := nKT_; have QW := nQW_; have KW := nKW_; have KN := nKN_; have QL := nQL_; have HBA := nHBA_; have KALL := nKALL_
  clear nKA_ nKR_ nHB_ nHT_ nKT_ nQW_ nKW_ nKN_ nQL_ nHBA_ nKALL_
  clear hb
  have HBF := Aside0.mk (Below.refl w6.heap.size w6)
  have xKFALL := Aside0.mk (blk_new w6 (.cells #[.func (.func 83) #[] lbF] 49 (0, 0)))
  have nKA_ := Aside0.mk (blk_alloc KA.out (.cells #[.func (.func 83) #[] lbF] 49 (0, 0)))
  have nKR_ := Aside0.mk (blk_alloc KR.out (.cells #[.func (.func 83) #[] lbF] 49 (0, 0)))
  have nHB_ := Aside0.mk (below_alloc HB.out (.cells #[.func (.func 83) #[] lbF] 49 (0, 0)))
  have nHT_ := Aside0.mk (Kd.R_alloc HT.out (.cells #[.func (.func 83) #[] lbF] 49 (0, 0)))
  have nKT_ := Aside0.mk (blk_alloc KT.out (.cells #[.func (.func 83) #[] lbF] 49 (0, 0)))
  have nQW_ := Aside0.mk (Kd.C_alloc QW.out (.cells #[.func (.func 83) #[] lbF] 49 (0, 0)))
  have nKW_ := Aside0.mk (blk_alloc KW.out (.cells #[.func (.func 83) #[] lbF] 49 (0, 0)))
  have nKN_ := Aside0.mk (blk_alloc KN.out (.cells #[.func (.func 83) #[] lbF] 49 (0, 0)))
  have nQL_ := Aside0.mk (Kd.C_alloc QL.out (.cells #[.func (.func 83) #[] lbF] 49 (0, 0)))
  have nHBA_ := Aside0.mk (below_alloc HBA.out (.cells #[.func (.func 83) #[] lbF] 49 (0, 0)))
  have nKALL_ := Aside0.mk (blk_alloc KALL.out (.cells #[.func (.func 83) #[] lbF] 49 (0, 0)))
  have nHBF_ := Aside0.mk (below_alloc HBF.out (.cells #[.func (.func 83) #[] lbF] 49 (0, 0)))
  clear KA KR HB HT KT QW KW KN QL HBA KALL HBF
  have KA := nKA_; have KR := nKR_; have HB := nHB_; have HT := nHT_; have KT := nKT_; have QW := nQW_; have KW := nKW_; have KN := nKN_; have QL := nQL_; have HBA := nHBA_; have KALL := nKALL_; have HBF := nHBF_
  clear nKA_ nKR_ nHB_ nHT_ nKT_ nQW_ nKW_ nKN_ nQL_ nHBA_ nKALL_ nHBF_
  have KFALL := xKFALL; clear xKFALL
  have hEA : ∀ W, (binOp .eql 49 (.func (.func 82) #[] lbA) .nilFunc).run Tryd.prog W = .ok (.bool false) W := fun W => run_eql_fn W _ _ _ _ hu49
  have hEF : ∀ W, (binOp .eql 49 (.func (.func 83) #[] lbF) .nilFunc).run Tryd.prog W = .ok (.bool false) W := fun W => run_eql_fn W _ _ _ _ hu49
  have hNA : ∀ W, (binOp .neq 49 (.func (.func 82) #[] lbA) .nilFunc).run Tryd.prog W = .ok (.bool true) W := fun W => run_neq_fn W _ _ _ _ hu49
  have hNF : ∀ W, (binOp .neq 49 (.func (.func 83) #[] lbF) .nilFunc).run Tryd.prog W = .ok (.bool true) W := fun W => run_neq_fn W _ _ _ _ hu49
  have qKALL0 := (blk_cell KALL.out 0).trans rfl
  have qKFALL0 := (blk_cell KFALL.out 0).trans rfl
  have qKR0 := (blk_cell KR.out 0).trans rfl
  have z0 := blk_frozen KR.out 0
  gi_wp2_with fail
  have hXg := blk_put KR.out 0 (Value.bool true) rfl
  have c0_ := (blk_cell hXg 0).trans rfl
  refine ⟨.bool true, ?_, rfl, below_set HB.out (Nat.le_succ _)⟩
  simp [results, Tryd.f6, go_sem, c0_]
set_option maxHeartbeats 8000000 in
set_option maxRecDepth 100000 in
theorem BitElements_pos (kE kH kC kS : Nat) (n0 : Int) (A0 : Option Addr) (c0 : Nat) (l0 : List Int) (el stop : Int) (w : World) (hr0 : Kd.C (Kd.int .u64) w A0 l0.length l0) (hc0 : l0.length ≤ c0) (hn0 : l0.length * 8 ≤ 140737488351232) (hG : Tz w) (r xs : List Int) (bh : Bool)
    (ho : bitset_own.f n0 l0 = some r) (hw : Wds r) (h64 : r.length ≤ 64) (hx : els (64 * r.length) r = xs) (hE : sloperef3_Elements.f kE n0 l0 = some xs) (hH : bitset_Has.f n0 l0 el = some bh) (hH2 : sloperef3_Has.f kH n0 l0 el = some bh) (hC : bitset_Count.f kC n0 l0 = some (xs.length : Int)) (hS : slopelaw3_sameInts.f kS xs xs = some true) (hst : ¬ stop < 0) (kS2 : Nat) (hS2 : slopelaw3_sameInts.f kS2 (xs.take stop.toNat) (xs.take stop.toNat) = some true) :
    Calls Tryd.prog 6 #[.agg #[.int .i64 n0, .slice A0 l0.length c0], .int .i64 el, .int .i64 stop] w fun e w' => e = .returned (.bool true) ∧ Below w.heap.size w w' := by
  have hu24 := Tryd.underlying24
  have hu49 := Tryd.underlying49
  have hd : decide (stop < 0) = false := decide_eq_false hst
  have HS2 := Aside0.mk hS2; clear hS2
  have HC := Aside0.mk hr0
  have HG := Aside0.mk hG
  have HO := Aside0.mk ho; have HX := Aside0.mk hx; have HE := Aside0.mk hE; have HH := Aside0.mk hH; have HH2 := Aside0.mk hH2; have HCn := Aside0.mk hC; have HSm := Aside0.mk hS
  clear hr0 hG ho hx hE hH hH2 hC hS
  obtain ⟨o1, ho1⟩ : ∃ o1 : Obj, o1 = .cells #[.int .i64 n0, .slice A0 l0.length c0] 24 (0, 0) := ⟨_, rfl⟩
  obtain ⟨o2, ho2⟩ : ∃ o2 : Obj, o2 = .cells #[.bool false] 4 (0, 0) := ⟨_, rfl⟩
  have K0 : ((w.alloc o1).alloc o2).heap[w.heap.size]? = some o1 := blk_alloc (blk_new w o1) _
  have K1 : ((w.alloc o1).alloc o2).heap[w.heap.size + 1]? = some o2 := by have := blk_new (w.alloc o1) o2; rwa [World.size_alloc] at this
  have HB0 : Below w.heap.size w ((w.alloc o1).alloc o2) := below_alloc (below_alloc (Below.refl _ _) _) _
  rw [ho1, ho2] at K0 K1 HB0
  clear ho1 ho2 o1 o2
  have KA := Aside0.mk K0
  have KR := Aside0.mk K1
  have HB := Aside0.mk HB0
  clear K0 K1 HB0
  refine (callsIn_wide (n := 6)).1 ?_
  refine callsIn_of_wp_marks Tryd.func6 rfl trivial ?_ rfl
  simp only [Tryd.ntmps6, List.size_toArray, List.length_cons, List.length_nil, Nat.reduceAdd, Nat.reduceSub, Array.replicate_succ, Array.replicate_zero, List.push_toArray, List.append_toArray, List.nil_append, List.cons_append]
  have qKA0 := (blk_cell KA.out 0).trans rfl; have qKA1 := (blk_cell KA.out 1).trans rfl
  gi_wp2_with fail
  refine ⟨trivial, ?_⟩; gi_at_call 14
  refine (callsIn_wide.2 (twin_marked n0 A0 c0 l0 _ (Kd.C_below HC.out HB.out) hc0 hn0)).mono ?_
  rintro e w1 ⟨gT, capT, rfl, ho, hb⟩
  clear qKA0 qKA1
  have mHT := Aside0.mk ho; clear ho
  have nKA_ := Aside0.mk (blk_below KA.out hb)
  have nKR_ := Aside0.mk (blk_below KR.out hb)
  have nHB_ := Aside0.mk (below_step HB.out hb)
  clear KA KR HB
  have KA := nKA_; have KR := nKR_; have HB := nHB_
  clear nKA_ nKR_ nHB_
  clear hb; have HT := mHT; clear mHT
  have xKT := Aside0.mk (blk_new w1 (.cells #[.int .i64 n0, .slice (some ⟨gT, 0, none⟩) l0.length capT] 24 (0, 0)))
  have nKA_ := Aside0.mk (blk_alloc KA.out (.cells #[.int .i64 n0, .slice (some ⟨gT, 0, none⟩) l0.length capT] 24 (0, 0)))
  have nKR_ := Aside0.mk (blk_alloc KR.out (.cells #[.int .i64 n0, .slice (some ⟨gT, 0, none⟩) l0.length capT] 24 (0, 0)))
  have nHB_ := Aside0.mk (below_alloc HB.out (.cells #[.int .i64 n0, .slice (some ⟨gT, 0, none⟩) l0.length capT] 24 (0, 0)))
  have nHT_ := Aside0.mk (Kd.R_alloc HT.out (.cells #[.int .i64 n0, .slice (some ⟨gT, 0, none⟩) l0.length capT] 24 (0, 0)))
  clear KA KR HB HT
  have KA := nKA_; have KR := nKR_; have HB := nHB_; have HT := nHT_
  clear nKA_ nKR_ nHB_ nHT_
  have KT := xKT; clear xKT
  have lT := Aside0.mk (wmarked_fits HT.out)
  have qKA0 := (blk_cell KA.out 0).trans rfl; have qKA1 := (blk_cell KA.out 1).trans rfl
  gi_wp2_with fail
  refine ⟨trivial, ?_⟩; gi_at_call 35
  refine (callsIn_wide.2 (sloperef3_Elements.calls kE n0 _ _ l0 xs _ (Kd.C_below HC.out HB.out) hc0 HE.out)).mono ?_
  rintro e w2 ⟨vW, rfl, ho, hb⟩
  clear qKA0 qKA1
  obtain ⟨AW, cW, ev⟩ := Kd.R_slice ho; subst ev
  have lW := Aside0.mk (Kd.R_reads' ho).2.1; have mW := Aside0.mk (Kd.R_reads' ho).2.2; clear ho
  have nKA_ := Aside0.mk (blk_below KA.out hb)
  have nKR_ := Aside0.mk (blk_below KR.out hb)
  have nHB_ := Aside0.mk (below_step HB.out hb)
  have nHT_ := Aside0.mk (Kd.R_below HT.out hb)
  have nKT_ := Aside0.mk (blk_below KT.out hb)
  clear KA KR HB HT KT
  have KA := nKA_; have KR := nKR_; have HB := nHB_; have HT := nHT_; have KT := nKT_
  clear nKA_ nKR_ nHB_ nHT_ nKT_
  clear hb; have QW := mW; clear mW
  have xKW := Aside0.mk (blk_new w2 (.cells #[.slice AW xs.length cW] 25 (0, 0)))
  have nKA_ := Aside0.mk (blk_alloc KA.out (.cells #[.slice AW xs.length cW] 25 (0, 0)))
  have nKR_ := Aside0.mk (blk_alloc KR.out (.cells #[.slice AW xs.length cW] 25 (0, 0)))
  have nHB_ := Aside0.mk (below_alloc HB.out (.cells #[.slice AW xs.length cW] 25 (0, 0)))
  have nHT_ := Aside0.mk (Kd.R_alloc HT.out (.cells #[.slice AW xs.length cW] 25 (0, 0)))
  have nKT_ := Aside0.mk (blk_alloc KT.out (.cells #[.slice AW xs.length cW] 25 (0, 0)))
  have nQW_ := Aside0.mk (Kd.C_alloc QW.out (.cells #[.slice AW xs.length cW] 25 (0, 0)))
  clear KA KR HB HT KT QW
  have KA := nKA_; have KR := nKR_; have HB := nHB_; have HT := nHT_; have KT := nKT_; have QW := nQW_
  clear nKA_ nKR_ nHB_ nHT_ nKT_ nQW_
  have KW := xKW; clear xKW
  have qKW0 := (blk_cell KW.out 0).trans rfl
  have y1_ : ((w2.alloc (.cells #[.slice AW xs.length cW] 25 (0, 0))).alloc (.cells #[.int .i64 xs.length] 3 (0, 0))).heap[w2.heap.size + 1]? = some (.cells #[.int .i64 xs.length] 3 (0, 0)) := by have := blk_new (w2.alloc (.cells #[.slice AW xs.length cW] 25 (0, 0))) (.cells #[.int .i64 xs.length] 3 (0, 0)); rwa [World.size_alloc] at this
  have xKN := Aside0.mk y1_; clear y1_
  have nKA_ := Aside0.mk (blk_alloc KA.out (.cells #[.int .i64 xs.length] 3 (0, 0)))
  have nKR_ := Aside0.mk (blk_alloc KR.out (.cells #[.int .i64 xs.length] 3 (0, 0)))
  have nHB_ := Aside0.mk (below_alloc HB.out (.cells #[.int .i64 xs.length] 3 (0, 0)))
  have nHT_ := Aside0.mk (Kd.R_alloc HT.out (.cells #[.int .i64 xs.length] 3 (0, 0)))
  have nKT_ := Aside0.mk (blk_alloc KT.out (.cells #[.int .i64 xs.length] 3 (0, 0)))
  have nQW_ := Aside0.mk (Kd.C_alloc QW.out (.cells #[.int .i64 xs.length] 3 (0, 0)))
  have nKW_ := Aside0.mk (blk_alloc KW.out (.cells #[.int .i64 xs.length] 3 (0, 0)))
  clear KA KR HB HT KT QW KW
  have KA := nKA_; have KR := nKR_; have HB := nHB_; have HT := nHT_; have KT := nKT_; have QW := nQW_; have KW := nKW_
  clear nKA_ nKR_ nHB_ nHT_ nKT_ nQW_ nKW_
  have KN := xKN; clear xKN
  clear qKW0
  have qKT0 := (blk_cell KT.out 0).trans rfl; have qKT1 := (blk_cell KT.out 1).trans rfl
  gi_wp2_with fail
  refine ⟨trivial, ?_⟩; gi_at_call 36
  refine (callsIn_wide.2 (Elements_calls n0 _ _ l0 r _ (wmarked_reads HT.out) lT.out HO.out hw h64 (tz_at HG.out HB.out))).mono ?_
  rintro e w3 ⟨vL, rfl, ho, hb⟩
  clear qKT0 qKT1
  rw [HX.out] at ho
  obtain ⟨AL, cL, ev⟩ := Kd.R_slice ho; subst ev
  have lL := Aside0.mk (Kd.R_reads' ho).2.1; have mL := Aside0.mk (Kd.R_reads' ho).2.2; clear ho
  have nKA_ := Aside0.mk (blk_below KA.out hb)
  have nKR_ := Aside0.mk (blk_below KR.out hb)
  have nHB_ := Aside0.mk (below_step HB.out hb)
  have nHT_ := Aside0.mk (Kd.R_below HT.out hb)
  have nKT_ := Aside0.mk (blk_below KT.out hb)
  have nQW_ := Aside0.mk (Kd.C_below QW.out hb)
  have nKW_ := Aside0.mk (blk_below KW.out hb)
  have nKN_ := Aside0.mk (blk_below KN.out hb)
  clear KA KR HB HT KT QW KW KN
  have KA := nKA_; have KR := nKR_; have HB := nHB_; have HT := nHT_; have KT := nKT_; have QW := nQW_; have KW := nKW_; have KN := nKN_
  clear nKA_ nKR_ nHB_ nHT_ nKT_ nQW_ nKW_ nKN_
  clear hb; have QL := mL; clear mL
  gi_wp2_with fail
  refine wpIn_wide.2 ?_
  have HR5 := Aside0.mk (Below.refl w3.heap.size w3)
  go_region_held3 (fun w' => w'.cell? ⟨w1.heap.size, 0, none⟩ = some (.int .i64 n0) ∧ w'.cell? ⟨w1.heap.size, 1, none⟩ = some (.slice (some ⟨gT, 0, none⟩) l0.length capT) ∧ w'.cell? ⟨w.heap.size, 0, none⟩ = some (.int .i64 n0) ∧ w'.cell? ⟨w.heap.size, 1, none⟩ = some (.slice A0 l0.length c0) ∧ w'.cell? ⟨w2.heap.size + 1, 0, none⟩ = some (.int .i64 xs.length) ∧ w'.cell? ⟨w2.heap.size, 0, none⟩ = some (.slice AW xs.length cW))
    (exact ⟨(blk_cell (blk_below KT.out (by repeat (first | (with_reducible first | exact HR5.out | apply below_alloc | apply pw_below_drewN | apply below_drew1) | exact HR5.out))) 0).trans rfl, (blk_cell (blk_below KT.out (by repeat (first | (with_reducible first | exact HR5.out | apply below_alloc | apply pw_below_drewN | apply below_drew1) | exact HR5.out))) 1).trans rfl, (blk_cell (blk_below KA.out (by repeat (first | (with_reducible first | exact HR5.out | apply below_alloc | apply pw_below_drewN | apply below_drew1) | exact HR5.out))) 0).trans rfl, (blk_cell (blk_below KA.out (by repeat (first | (with_reducible first | exact HR5.out | apply below_alloc | apply pw_below_drewN | apply below_drew1) | exact HR5.out))) 1).trans rfl, (blk_cell (blk_below KN.out (by repeat (first | (with_reducible first | exact HR5.out | apply below_alloc | apply pw_below_drewN | apply below_drew1) | exact HR5.out))) 0).trans rfl, (blk_cell (blk_below KW.out (by repeat (first | (with_reducible first | exact HR5.out | apply below_alloc | apply pw_below_drewN | apply below_drew1) | exact HR5.out))) 0).trans rfl⟩)
    (first
      | (go_at_call 34; (with_reducible refine (bitset_Has.calls n0 _ _ l0 el bh _ (wmarked_reads (Kd.R_below HT.out (by repeat (first | (with_reducible first | exact HR5.out | apply below_alloc | apply pw_below_drewN | apply below_drew1) | exact HR5.out)))) lT.out HH.out).mono ?_); rintro e w4 ⟨rfl, hb5⟩; have n0_ := Aside0.mk (below_step (by repeat (first | (with_reducible first | exact HR5.out | apply below_alloc | apply pw_below_drewN | apply below_drew1) | exact HR5.out)) hb5); clear HR5 hb5; have HR5 := n0_; clear n0_)
      | (go_at_call 37; (with_reducible refine (sloperef3_Has.calls kH n0 _ _ l0 el bh _ (Kd.C_below HC.out (below_step HB.out (by repeat (first | (with_reducible first | exact HR5.out | apply below_alloc | apply pw_below_drewN | apply below_drew1) | exact HR5.out)))) hc0 HH2.out).mono ?_); rintro e w4 ⟨rfl, hb5⟩; have n0_ := Aside0.mk (below_step (by repeat (first | (with_reducible first | exact HR5.out | apply below_alloc | apply pw_below_drewN | apply below_drew1) | exact HR5.out)) hb5); clear HR5 hb5; have HR5 := n0_; clear n0_)
      | (go_at_call 33; (with_reducible refine (bitset_Count.calls kC n0 _ _ l0 xs.length _ (wmarked_reads (Kd.R_below HT.out (by repeat (first | (with_reducible first | exact HR5.out | apply below_alloc | apply pw_below_drewN | apply below_drew1) | exact HR5.out)))) lT.out HCn.out).mono ?_); rintro e w4 ⟨rfl, hb5⟩; have n0_ := Aside0.mk (below_step (by repeat (first | (with_reducible first | exact HR5.out | apply below_alloc | apply pw_below_drewN | apply below_drew1) | exact HR5.out)) hb5); clear HR5 hb5; have HR5 := n0_; clear n0_)
      | (go_at_call 38; (with_reducible refine (slopelaw3_sameInts.calls kS _ _ xs _ _ xs true _ (Kd.C_below QL.out (by repeat (first | (with_reducible first | exact HR5.out | apply below_alloc | apply pw_below_drewN | apply below_drew1) | exact HR5.out))) lL.out (Kd.C_below QW.out (by repeat (first | (with_reducible first | exact HR5.out | apply below_alloc | apply pw_below_drewN | apply below_drew1) | exact HR5.out))) lW.out HSm.out).mono ?_); rintro e w4 ⟨rfl, hb5⟩; replace hb5 := hb5.below; have n0_ := Aside0.mk (below_step (by repeat (first | (with_reducible first | exact HR5.out | apply below_alloc | apply pw_below_drewN | apply below_drew1) | exact HR5.out)) hb5); clear HR5 hb5; have HR5 := n0_; clear n0_))
  have hb := HR5.out; clear HR5
  have nKA_ := Aside0.mk (blk_below KA.out hb)
  have nKR_ := Aside0.mk (blk_below KR.out hb)
  have nHB_ := Aside0.mk (below_step HB.out hb)
  have nHT_ := Aside0.mk (Kd.R_below HT.out hb)
  have nKT_ := Aside0.mk (blk_below KT.out hb)
  have nQW_ := Aside0.mk (Kd.C_below QW.out hb)
  have nKW_ := Aside0.mk (blk_below KW.out hb)
  have nKN_ := Aside0.mk (blk_below KN.out hb)
  have nQL_ := Aside0.mk (Kd.C_below QL.out hb)
  clear KA KR HB HT KT QW KW KN QL
  have KA := nKA_; have KR := nKR_; have HB := nHB_; have HT := nHT_; have KT := nKT_; have QW := nQW_; have KW := nKW_; have KN := nKN_; have QL := nQL_
  clear nKA_ nKR_ nHB_ nHT_ nKT_ nQW_ nKW_ nKN_ nQL_
  clear hb
  have qKT0 := (blk_cell KT.out 0).trans rfl; have qKT1 := (blk_cell KT.out 1).trans rfl
  gi_wp2_with fail
  refine ⟨trivial, ?_⟩; gi_at_call 39
  refine (callsIn_wide.2 (All_iter n0 _ _ l0 r _ (wmarked_reads HT.out) lT.out HO.out hw h64 (tz_at HG.out HB.out))).mono ?_
  rintro e w5 ⟨lbA, KIA, rfl, hI, hKin, hb⟩
  clear qKT0 qKT1
  rw [HX.out] at hI; have IA := Aside0.mk hI; have lIA := Aside0.mk (fun k hk => (hKin k hk).1); clear hI hKin
  have nKA_ := Aside0.mk (blk_below KA.out hb)
  have nKR_ := Aside0.mk (blk_below KR.out hb)
  have nHB_ := Aside0.mk (below_step HB.out hb)
  have nHT_ := Aside0.mk (Kd.R_below HT.out hb)
  have nKT_ := Aside0.mk (blk_below KT.out hb)
  have nQW_ := Aside0.mk (Kd.C_below QW.out hb)
  have nKW_ := Aside0.mk (blk_below KW.out hb)
  have nKN_ := Aside0.mk (blk_below KN.out hb)
  have nQL_ := Aside0.mk (Kd.C_below QL.out hb)
  clear KA KR HB HT KT QW KW KN QL
  have KA := nKA_; have KR := nKR_; have HB := nHB_; have HT := nHT_; have KT := nKT_; have QW := nQW_; have KW := nKW_; have KN := nKN_; have QL := nQL_
  clear nKA_ nKR_ nHB_ nHT_ nKT_ nQW_ nKW_ nKN_ nQL_
  clear hb
  have HBA := Aside0.mk (Below.refl w5.heap.size w5)
  have xKALL := Aside0.mk (blk_new w5 (.cells #[.func (.func 82) #[] lbA] 49 (0, 0)))
  have nKA_ := Aside0.mk (blk_alloc KA.out (.cells #[.func (.func 82) #[] lbA] 49 (0, 0)))
  have nKR_ := Aside0.mk (blk_alloc KR.out (.cells #[.func (.func 82) #[] lbA] 49 (0, 0)))
  have nHB_ := Aside0.mk (below_alloc HB.out (.cells #[.func (.func 82) #[] lbA] 49 (0, 0)))
  have nHT_ := Aside0.mk (Kd.R_alloc HT.out (.cells #[.func (.func 82) #[] lbA] 49 (0, 0)))
  have nKT_ := Aside0.mk (blk_alloc KT.out (.cells #[.func (.func 82) #[] lbA] 49 (0, 0)))
  have nQW_ := Aside0.mk (Kd.C_alloc QW.out (.cells #[.func (.func 82) #[] lbA] 49 (0, 0)))
  have nKW_ := Aside0.mk (blk_alloc KW.out (.cells #[.func (.func 82) #[] lbA] 49 (0, 0)))
  have nKN_ := Aside0.mk (blk_alloc KN.out (.cells #[.func (.func 82) #[] lbA] 49 (0, 0)))
  have nQL_ := Aside0.mk (Kd.C_alloc QL.out (.cells #[.func (.func 82) #[] lbA] 49 (0, 0)))
  have nHBA_ := Aside0.mk (below_alloc HBA.out (.cells #[.func (.func 82) #[] lbA] 49 (0, 0)))
  clear KA KR HB HT KT QW KW KN QL HBA
  have KA := nKA_; have KR := nKR_; have HB := nHB_; have HT := nHT_; have KT := nKT_; have QW := nQW_; have KW := nKW_; have KN := nKN_; have QL := nQL_; have HBA := nHBA_
  clear nKA_ nKR_ nHB_ nHT_ nKT_ nQW_ nKW_ nKN_ nQL_ nHBA_
  have KALL := xKALL; clear xKALL
  have qKT0 := (blk_cell KT.out 0).trans rfl; have qKT1 := (blk_cell KT.out 1).trans rfl
  gi_wp2_with fail
  refine ⟨trivial, ?_⟩; gi_at_call 40
  refine (callsIn_wide.2 (Falling_iter n0 _ _ l0 r _ (wmarked_reads HT.out) lT.out HO.out hw h64 (tz_at HG.out HB.out))).mono ?_
  rintro e w6 ⟨lbF, KIF, rfl, hI, hKin, hb⟩
  clear qKT0 qKT1
  rw [HX.out] at hI; have IF := Aside0.mk hI; have lIF := Aside0.mk (fun k hk => (hKin k hk).1); clear hI hKin
  have nKA_ := Aside0.mk (blk_below KA.out hb)
  have nKR_ := Aside0.mk (blk_below KR.out hb)
  have nHB_ := Aside0.mk (below_step HB.out hb)
  have nHT_ := Aside0.mk (Kd.R_below HT.out hb)
  have nKT_ := Aside0.mk (blk_below KT.out hb)
  have nQW_ := Aside0.mk (Kd.C_below QW.out hb)
  have nKW_ := Aside0.mk (blk_below KW.out hb)
  have nKN_ := Aside0.mk (blk_below KN.out hb)
  have nQL_ := Aside0.mk (Kd.C_below QL.out hb)
  have nHBA_ := Aside0.mk (below_step HBA.out hb)
  have nKALL_ := Aside0.mk (blk_below KALL.out hb)
  clear KA KR HB HT KT QW KW KN QL HBA KALL
  have KA := nKA_; have KR := nKR_; have HB := nHB_; have HT := nHT_; have KT := nKT_; have QW := nQW_; have KW := nKW_; have KN := nKN_; have QL := nQL_; have HBA := nHBA_; have KALL := nKALL_
  clear nKA_ nKR_ nHB_ nHT_ nKT_ nQW_ nKW_ nKN_ nQL_ nHBA_ nKALL_
  clear hb
  have HBF := Aside0.mk (Below.refl w6.heap.size w6)
  have xKFALL := Aside0.mk (blk_new w6 (.cells #[.func (.func 83) #[] lbF] 49 (0, 0)))
  have nKA_ := Aside0.mk (blk_alloc KA.out (.cells #[.func (.func 83) #[] lbF] 49 (0, 0)))
  have nKR_ := Aside0.mk (blk_alloc KR.out (.cells #[.func (.func 83) #[] lbF] 49 (0, 0)))
  have nHB_ := Aside0.mk (below_alloc HB.out (.cells #[.func (.func 83) #[] lbF] 49 (0, 0)))
  have nHT_ := Aside0.mk (Kd.R_alloc HT.out (.cells #[.func (.func 83) #[] lbF] 49 (0, 0)))
  have nKT_ := Aside0.mk (blk_alloc KT.out (.cells #[.func (.func 83) #[] lbF] 49 (0, 0)))
  have nQW_ := Aside0.mk (Kd.C_alloc QW.out (.cells #[.func (.func 83) #[] lbF] 49 (0, 0)))
  have nKW_ := Aside0.mk (blk_alloc KW.out (.cells #[.func (.func 83) #[] lbF] 49 (0, 0)))
  have nKN_ := Aside0.mk (blk_alloc KN.out (.cells #[.func (.func 83) #[] lbF] 49 (0, 0)))
  have nQL_ := Aside0.mk (Kd.C_alloc QL.out (.cells #[.func (.func 83) #[] lbF] 49 (0, 0)))
  have nHBA_ := Aside0.mk (below_alloc HBA.out (.cells #[.func (.func 83) #[] lbF] 49 (0, 0)))
  have nKALL_ := Aside0.mk (blk_alloc KALL.out (.cells #[.func (.func 83) #[] lbF] 49 (0, 0)))
  have nHBF_ := Aside0.mk (below_alloc HBF.out (.cells #[.func (.func 83) #[] lbF] 49 (0, 0)))
  clear KA KR HB HT KT QW KW KN QL HBA KALL HBF
  have KA := nKA_; have KR := nKR_; have HB := nHB_; have HT := nHT_; have KT := nKT_; have QW := nQW_; have KW := nKW_; have KN := nKN_; have QL := nQL_; have HBA := nHBA_; have KALL := nKALL_; have HBF := nHBF_
  clear nKA_ nKR_ nHB_ nHT_ nKT_ nQW_ nKW_ nKN_ nQL_ nHBA_ nKALL_ nHBF_
  have KFALL := xKFALL; clear xKFALL
  have hEA : ∀ W, (binOp .eql 49 (.func (.func 82) #[] lbA) .nilFunc).run Tryd.prog W = .ok (.bool false) W := fun W => run_eql_fn W _ _ _ _ hu49
  have hEF : ∀ W, (binOp .eql 49 (.func (.func 83) #[] lbF) .nilFunc).run Tryd.prog W = .ok (.bool false) W := fun W => run_eql_fn W _ _ _ _ hu49
  have hNA : ∀ W, (binOp .neq 49 (.func (.func 82) #[] lbA) .nilFunc).run Tryd.prog W = .ok (.bool true) W := fun W => run_neq_fn W _ _ _ _ hu49
  have hNF : ∀ W, (binOp .neq 49 (.func (.func 83) #[] lbF) .nilFunc).run Tryd.prog W = .ok (.bool true) W := fun W => run_neq_fn W _ _ _ _ hu49
  have hxl : xs.length ≤ 4096 := by have h1 := els_len r r.length; rw [HX.out] at h1; omega
  have qKALL0 := (blk_cell KALL.out 0).trans rfl
  have qKFALL0 := (blk_cell KFALL.out 0).trans rfl
  gi_wp2_with fail
  refine ⟨trivial, ?_⟩; gi_at_call 41
  refine ((callsIn_wide.2 (heard_at KIA 82 lbA xs (xs.take stop.toNat) stop (xs.take stop.toNat).length _ (Iter.later IA.out HBA.out) (fun k hk => Nat.lt_of_lt_of_le (lIA.out k hk) (below_size HBA.out)) (enters_of Tryd.func82 (by kernel_rfl) rfl) hxl rfl rfl))).mono ?_
  rintro e w7 ⟨AP, cP, rfl, mQP, lQP_, hb⟩
  have lQP := Aside0.mk lQP_; have hQP := Aside0.mk mQP; clear lQP_ mQP
  have nKA_ := Aside0.mk (blk_below KA.out hb)
  have nKR_ := Aside0.mk (blk_below KR.out hb)
  have nHB_ := Aside0.mk (below_step HB.out hb)
  have nHT_ := Aside0.mk (Kd.R_below HT.out hb)
  have nKT_ := Aside0.mk (blk_below KT.out hb)
  have nQW_ := Aside0.mk (Kd.C_below QW.out hb)
  have nKW_ := Aside0.mk (blk_below KW.out hb)
  have nKN_ := Aside0.mk (blk_below KN.out hb)
  have nQL_ := Aside0.mk (Kd.C_below QL.out hb)
  have nHBA_ := Aside0.mk (below_step HBA.out hb)
  have nKALL_ := Aside0.mk (blk_below KALL.out hb)
  have nHBF_ := Aside0.mk (below_step HBF.out hb)
  have nKFALL_ := Aside0.mk (blk_below KFALL.out hb)
  clear KA KR HB HT KT QW KW KN QL HBA KALL HBF KFALL
  have KA := nKA_; have KR := nKR_; have HB := nHB_; have HT := nHT_; have KT := nKT_; have QW := nQW_; have KW := nKW_; have KN := nKN_; have QL := nQL_; have HBA := nHBA_; have KALL := nKALL_; have HBF := nHBF_; have KFALL := nKFALL_
  clear nKA_ nKR_ nHB_ nHT_ nKT_ nQW_ nKW_ nKN_ nQL_ nHBA_ nKALL_ nHBF_ nKFALL_
  clear hb; have QP := hQP; clear hQP
  clear qKALL0 qKFALL0
  have qKALL0 := (blk_cell KALL.out 0).trans rfl
  have qKN0 := (blk_cell KN.out 0).trans rfl
  gi_wp2_with fail
  refine ⟨trivial, ?_⟩; gi_at_call 41
  refine ((callsIn_wide.2 (heard_at KIA 82 lbA xs xs ((xs.length : Int) + 9) xs.length _ (Iter.later IA.out HBA.out) (fun k hk => Nat.lt_of_lt_of_le (lIA.out k hk) (below_size HBA.out)) (enters_of Tryd.func82 (by kernel_rfl) rfl) hxl (List.take_of_length_le (by omega)) rfl))).mono ?_
  rintro e w8 ⟨AU, cU, rfl, mQU, lQU_, hb⟩
  have lQU := Aside0.mk lQU_; have hQU := Aside0.mk mQU; clear lQU_ mQU
  have nKA_ := Aside0.mk (blk_below KA.out hb)
  have nKR_ := Aside0.mk (blk_below KR.out hb)
  have nHB_ := Aside0.mk (below_step HB.out hb)
  have nHT_ := Aside0.mk (Kd.R_below HT.out hb)
  have nKT_ := Aside0.mk (blk_below KT.out hb)
  have nQW_ := Aside0.mk (Kd.C_below QW.out hb)
  have nKW_ := Aside0.mk (blk_below KW.out hb)
  have nKN_ := Aside0.mk (blk_below KN.out hb)
  have nQL_ := Aside0.mk (Kd.C_below QL.out hb)
  have nHBA_ := Aside0.mk (below_step HBA.out hb)
  have nKALL_ := Aside0.mk (blk_below KALL.out hb)
  have nHBF_ := Aside0.mk (below_step HBF.out hb)
  have nKFALL_ := Aside0.mk (blk_below KFALL.out hb)
  have nQP_ := Aside0.mk (Kd.C_below QP.out hb)
  clear KA KR HB HT KT QW KW KN QL HBA KALL HBF KFALL QP
  have KA := nKA_; have KR := nKR_; have HB := nHB_; have HT := nHT_; have KT := nKT_; have QW := nQW_; have KW := nKW_; have KN := nKN_; have QL := nQL_; have HBA := nHBA_; have KALL := nKALL_; have HBF := nHBF_; have KFALL := nKFALL_; have QP := nQP_
  clear nKA_ nKR_ nHB_ nHT_ nKT_ nQW_ nKW_ nKN_ nQL_ nHBA_ nKALL_ nHBF_ nKFALL_ nQP_
  clear hb; have QU := hQU; clear hQU
  clear qKALL0 qKN0
  have q0 := (blk_cell (blk_alloc KALL.out (.cells #[.int .i64 0] 3 (0, 0))) 0).trans rfl
  gi_wp2_with fail
  clear q0
  have HIA := IA.out; unfold Iter at HIA
  have hW5 : w5.heap.size ≤ w8.heap.size := below_size HBA.out
  have HW5 := Aside0.mk hW5; clear hW5
  have HW0 := Aside0.mk (below_size HB.out)
  have hBk : Below w8.heap.size w8 (w8.alloc (.cells #[.int .i64 0] 3 (0, 0))) := below_alloc (Below.refl _ _) _
  have hsk : (w8.alloc (.cells #[.int .i64 0] 3 (0, 0))).heap.size = w8.heap.size + 1 := World.size_alloc _ _
  refine range_own (α := { x : Int // x ∈ xs }) (q := 18) rfl (enters_of Tryd.func82 (by kernel_rfl) rfl) HIA (fun h g => Ke.trans h g) (fun W l o o' hl ho hc hw k hk => ?kb) (below_alloc HBA.out _)
    (fun pre W => ElI w8 pre.length W) (fun c pre W => ElX w8 xs c (pre.map (·.1)) W) (ElI.from w8 (by rw [hsk]; omega)) (ElX.from w8 xs (fun (pre : List { x : Int // x ∈ xs }) => pre.map (·.1)) (by rw [hsk]; omega))
    ⟨⟨blk_new _ _, by rw [hsk]; exact Nat.le_refl _⟩, hBk⟩ ?assign ?body ?done ?stop
  case kb => exact World.putObj_heap_other (fun e => by have := lIA.out k hk; have := below_size HBA.out; omega)
  case assign =>
    intro l x W K hK
    simp only [List.setIfInBounds_toArray, List.set_cons_zero, List.set_cons_succ] at hK ⊢
    gi_wp2
    exact hK
  case body =>
    rintro l pre x W ⟨⟨hKk, hsz⟩, hBW⟩ hpl
    simp only [List.setIfInBounds_toArray, List.set_cons_zero, List.set_cons_succ]
    have hb := hBW
    have nKA_ := Aside0.mk (blk_below KA.out hb)
    have nKR_ := Aside0.mk (blk_below KR.out hb)
    have nHB_ := Aside0.mk (below_step HB.out hb)
    have nHT_ := Aside0.mk (Kd.R_below HT.out hb)
    have nKT_ := Aside0.mk (blk_below KT.out hb)
    have nQW_ := Aside0.mk (Kd.C_below QW.out hb)
    have nKW_ := Aside0.mk (blk_below KW.out hb)
    have nKN_ := Aside0.mk (blk_below KN.out hb)
    have nQL_ := Aside0.mk (Kd.C_below QL.out hb)
    have nHBA_ := Aside0.mk (below_step HBA.out hb)
    have nKALL_ := Aside0.mk (blk_below KALL.out hb)
    have nHBF_ := Aside0.mk (below_step HBF.out hb)
    have nKFALL_ := Aside0.mk (blk_below KFALL.out hb)
    have nQP_ := Aside0.mk (Kd.C_below QP.out hb)
    have nQU_ := Aside0.mk (Kd.C_below QU.out hb)
    clear KA KR HB HT KT QW KW KN QL HBA KALL HBF KFALL QP QU
    have KA := nKA_; have KR := nKR_; have HB := nHB_; have HT := nHT_; have KT := nKT_; have QW := nQW_; have KW := nKW_; have KN := nKN_; have QL := nQL_; have HBA := nHBA_; have KALL := nKALL_; have HBF := nHBF_; have KFALL := nKFALL_; have QP := nQP_; have QU := nQU_
    clear nKA_ nKR_ nHB_ nHT_ nKT_ nQW_ nKW_ nKN_ nQL_ nHBA_ nKALL_ nHBF_ nKFALL_ nQP_ nQU_
    clear hb
    have KK := Aside0.mk hKk; have HBW := Aside0.mk hBW; have HB2 := Aside0.mk (Below.refl W.heap.size W); have HSZ := Aside0.mk hsz; clear hKk hBW hsz
    have qKFALL0 := (blk_cell KFALL.out 0).trans rfl
    have qKN0 := (blk_cell KN.out 0).trans rfl
    gi_wp2_with fail
    refine ⟨trivial, ?_⟩; gi_at_call 41
    refine (CallsIn.inRound l (callsIn_wide.2 (heard_at KIF 83 lbF xs.reverse xs.reverse ((xs.length : Int) + 9) xs.length _ (Iter.later IF.out HBF.out) (fun k hk => Nat.lt_of_lt_of_le (lIF.out k hk) (below_size HBF.out)) (enters_of Tryd.func83 (by kernel_rfl) rfl) (by rw [List.length_reverse]; exact hxl) (List.take_of_length_le (by rw [List.length_reverse]; omega)) (List.length_reverse)))).mono ?_
    rintro e w9 ⟨AD, cD, rfl, mQD, lQD_, hb⟩
    have lQD := Aside0.mk lQD_; have hQD := Aside0.mk mQD; clear lQD_ mQD
    have nKA_ := Aside0.mk (blk_below KA.out hb)
    have nKR_ := Aside0.mk (blk_below KR.out hb)
    have nHB_ := Aside0.mk (below_step HB.out hb)
    have nHT_ := Aside0.mk (Kd.R_below HT.out hb)
    have nKT_ := Aside0.mk (blk_below KT.out hb)
    have nQW_ := Aside0.mk (Kd.C_below QW.out hb)
    have nKW_ := Aside0.mk (blk_below KW.out hb)
    have nKN_ := Aside0.mk (blk_below KN.out hb)
    have nQL_ := Aside0.mk (Kd.C_below QL.out hb)
    have nHBA_ := Aside0.mk (below_step HBA.out hb)
    have nKALL_ := Aside0.mk (blk_below KALL.out hb)
    have nHBF_ := Aside0.mk (below_step HBF.out hb)
    have nKFALL_ := Aside0.mk (blk_below KFALL.out hb)
    have nQP_ := Aside0.mk (Kd.C_below QP.out hb)
    have nQU_ := Aside0.mk (Kd.C_below QU.out hb)
    have nKK_ := Aside0.mk (blk_below KK.out hb)
    have nHBW_ := Aside0.mk (below_step HBW.out hb)
    have nHB2_ := Aside0.mk (below_step HB2.out hb)
    clear KA KR HB HT KT QW KW KN QL HBA KALL HBF KFALL QP QU KK HBW HB2
    have KA := nKA_; have KR := nKR_; have HB := nHB_; have HT := nHT_; have KT := nKT_; have QW := nQW_; have KW := nKW_; have KN := nKN_; have QL := nQL_; have HBA := nHBA_; have KALL := nKALL_; have HBF := nHBF_; have KFALL := nKFALL_; have QP := nQP_; have QU := nQU_; have KK := nKK_; have HBW := nHBW_; have HB2 := nHB2_
    clear nKA_ nKR_ nHB_ nHT_ nKT_ nQW_ nKW_ nKN_ nQL_ nHBA_ nKALL_ nHBF_ nKFALL_ nQP_ nQU_ nKK_ nHBW_ nHB2_
    clear hb; have QD := hQD; clear hQD
    clear qKFALL0 qKN0
    have qKALL0 := (blk_cell KALL.out 0).trans rfl
    have qKN0 := (blk_cell KN.out 0).trans rfl
    gi_wp2_with fail
    refine ⟨trivial, ?_⟩; gi_at_call 41
    refine (CallsIn.inRound l (callsIn_wide.2 (heard_at KIA 82 lbA xs xs ((xs.length : Int) + 9) xs.length _ (Iter.later IA.out HBA.out) (fun k hk => Nat.lt_of_lt_of_le (lIA.out k hk) (below_size HBA.out)) (enters_of Tryd.func82 (by kernel_rfl) rfl) hxl (List.take_of_length_le (by omega)) rfl))).mono ?_
    rintro e w10 ⟨AG, cG, rfl, mQG, lQG_, hb⟩
    have lQG := Aside0.mk lQG_; have hQG := Aside0.mk mQG; clear lQG_ mQG
    have nKA_ := Aside0.mk (blk_below KA.out hb)
    have nKR_ := Aside0.mk (blk_below KR.out hb)
    have nHB_ := Aside0.mk (below_step HB.out hb)
    have nHT_ := Aside0.mk (Kd.R_below HT.out hb)
    have nKT_ := Aside0.mk (blk_below KT.out hb)
    have nQW_ := Aside0.mk (Kd.C_below QW.out hb)
    have nKW_ := Aside0.mk (blk_below KW.out hb)
    have nKN_ := Aside0.mk (blk_below KN.out hb)
    have nQL_ := Aside0.mk (Kd.C_below QL.out hb)
    have nHBA_ := Aside0.mk (below_step HBA.out hb)
    have nKALL_ := Aside0.mk (blk_below KALL.out hb)
    have nHBF_ := Aside0.mk (below_step HBF.out hb)
    have nKFALL_ := Aside0.mk (blk_below KFALL.out hb)
    have nQP_ := Aside0.mk (Kd.C_below QP.out hb)
    have nQU_ := Aside0.mk (Kd.C_below QU.out hb)
    have nKK_ := Aside0.mk (blk_below KK.out hb)
    have nHBW_ := Aside0.mk (below_step HBW.out hb)
    have nHB2_ := Aside0.mk (below_step HB2.out hb)
    have nQD_ := Aside0.mk (Kd.C_below QD.out hb)
    clear KA KR HB HT KT QW KW KN QL HBA KALL HBF KFALL QP QU KK HBW HB2 QD
    have KA := nKA_; have KR := nKR_; have HB := nHB_; have HT := nHT_; have KT := nKT_; have QW := nQW_; have KW := nKW_; have KN := nKN_; have QL := nQL_; have HBA := nHBA_; have KALL := nKALL_; have HBF := nHBF_; have KFALL := nKFALL_; have QP := nQP_; have QU := nQU_; have KK := nKK_; have HBW := nHBW_; have HB2 := nHB2_; have QD := nQD_
    clear nKA_ nKR_ nHB_ nHT_ nKT_ nQW_ nKW_ nKN_ nQL_ nHBA_ nKALL_ nHBF_ nKFALL_ nQP_ nQU_ nKK_ nHBW_ nHB2_ nQD_
    clear hb; have QG := hQG; clear hQG
    clear qKALL0 qKN0
    have hpl2 : pre.length ≤ 4096 := by omega
    obtain ⟨adW, eW, qW⟩ := Kd.at_int QW.out (pre.length : Int) (by omega) (by omega)
    subst eW
    obtain ⟨adD, eD, qD⟩ := Kd.at_int QD.out ((xs.length : Int) - 1 - (pre.length : Int)) (by omega) (by omega)
    subst eD
    rw [rd_nat, Int.toNat_natCast] at qW
    rw [rev_at hpl, show ((xs.length : Int) - 1 - (pre.length : Int)).toNat = xs.length - 1 - pre.length by omega] at qD
    obtain ⟨v, hv⟩ : ∃ v, xs.getD pre.length 0 = v := ⟨_, rfl⟩
    rw [hv] at qW qD
    have HV := Aside0.mk hv; clear hv
    have hKO : KeepsOthers W w10 := ko_below HB2.out
    have qKK0 := (blk_cell KK.out 0).trans rfl
    have qKN0 := (blk_cell KN.out 0).trans rfl
    have qKW0 := (blk_cell KW.out 0).trans rfl
    have qKR0 := (blk_cell KR.out 0).trans rfl
    have zK := blk_frozen KK.out 0; have zR := blk_frozen KR.out 0
    by_cases hk3 : pre.length < 3
    · have hk4 : decide ((pre.length : Int) < 3) = true := decide_eq_true (by omega)
      have hk5 : decide (3 < (pre.length : Int) + 1) = false := decide_eq_false (by omega)
      by_cases hxg : v = x.1
      · subst hxg
        gi_wp2_with fail
        exact el_next _ hKO HB2.out KK.out HBW.out HSZ.out lIA.out HW5.out
      · have hxn : (x.1 != v) = true := bne_iff_ne.2 (fun e => hxg e.symm)
        gi_wp2_with fail
        exact el_ret _ hKO (not_pre HV.out hxg)
    · have hk4 : decide ((pre.length : Int) < 3) = false := decide_eq_false (by omega)
      have hk5 : decide (3 < (pre.length : Int) + 1) = true := decide_eq_true (by omega)
      gi_wp2_with fail
      all_goals first | (have h_ := ‹some undef = some (Value.bool _)›; cases h_; done) | skip
      exact el_exit _ hKO HBW.out
  case done =>
    rintro D ys W hD hys hI hK
    have hB8 := hI.2
    have hb := hB8; have KD := Aside0.mk hK; have xHBW := Aside0.mk hB8; clear hB8 hK
    have nKA_ := Aside0.mk (blk_below KA.out hb)
    have nKR_ := Aside0.mk (blk_below KR.out hb)
    have nHB_ := Aside0.mk (below_step HB.out hb)
    have nHT_ := Aside0.mk (Kd.R_below HT.out hb)
    have nKT_ := Aside0.mk (blk_below KT.out hb)
    have nQW_ := Aside0.mk (Kd.C_below QW.out hb)
    have nKW_ := Aside0.mk (blk_below KW.out hb)
    have nKN_ := Aside0.mk (blk_below KN.out hb)
    have nQL_ := Aside0.mk (Kd.C_below QL.out hb)
    have nHBA_ := Aside0.mk (below_step HBA.out hb)
    have nKALL_ := Aside0.mk (blk_below KALL.out hb)
    have nHBF_ := Aside0.mk (below_step HBF.out hb)
    have nKFALL_ := Aside0.mk (blk_below KFALL.out hb)
    have nQP_ := Aside0.mk (Kd.C_below QP.out hb)
    have nQU_ := Aside0.mk (Kd.C_below QU.out hb)
    clear KA KR HB HT KT QW KW KN QL HBA KALL HBF KFALL QP QU
    have KA := nKA_; have KR := nKR_; have HB := nHB_; have HT := nHT_; have KT := nKT_; have QW := nQW_; have KW := nKW_; have KN := nKN_; have QL := nQL_; have HBA := nHBA_; have KALL := nKALL_; have HBF := nHBF_; have KFALL := nKFALL_; have QP := nQP_; have QU := nQU_
    clear nKA_ nKR_ nHB_ nHT_ nKT_ nQW_ nKW_ nKN_ nQL_ nHBA_ nKALL_ nHBF_ nKFALL_ nQP_ nQU_
    clear hb; have HBW := xHBW; clear xHBW
    by_cases hsn : stop < (xs.length : Int)
    · have hs4 : decide (stop < (xs.length : Int)) = true := decide_eq_true hsn
      have qKFALL0 := (blk_cell KFALL.out 0).trans rfl
      have qKN0 := (blk_cell KN.out 0).trans rfl
      gi_wp2_with fail
      refine ⟨trivial, ?_⟩; gi_at_call 41
      refine ((callsIn_wide.2 (heard_at KIF 83 lbF xs.reverse xs.reverse ((xs.length : Int) + 9) xs.length _ (Iter.later IF.out HBF.out) (fun k hk => Nat.lt_of_lt_of_le (lIF.out k hk) (below_size HBF.out)) (enters_of Tryd.func83 (by kernel_rfl) rfl) (by rw [List.length_reverse]; exact hxl) (List.take_of_length_le (by rw [List.length_reverse]; omega)) (List.length_reverse)))).mono ?_
      rintro e w9 ⟨AZ, cZ, rfl, mQZ, lQZ_, hb⟩
      have lQZ := Aside0.mk lQZ_; have hQZ := Aside0.mk mQZ; clear lQZ_ mQZ
      have nKA_ := Aside0.mk (blk_below KA.out hb)
      have nKR_ := Aside0.mk (blk_below KR.out hb)
      have nHB_ := Aside0.mk (below_step HB.out hb)
      have nHT_ := Aside0.mk (Kd.R_below HT.out hb)
      have nKT_ := Aside0.mk (blk_below KT.out hb)
      have nQW_ := Aside0.mk (Kd.C_below QW.out hb)
      have nKW_ := Aside0.mk (blk_below KW.out hb)
      have nKN_ := Aside0.mk (blk_below KN.out hb)
      have nQL_ := Aside0.mk (Kd.C_below QL.out hb)
      have nHBA_ := Aside0.mk (below_step HBA.out hb)
      have nKALL_ := Aside0.mk (blk_below KALL.out hb)
      have nHBF_ := Aside0.mk (below_step HBF.out hb)
      have nKFALL_ := Aside0.mk (blk_below KFALL.out hb)
      have nQP_ := Aside0.mk (Kd.C_below QP.out hb)
      have nQU_ := Aside0.mk (Kd.C_below QU.out hb)
      have nKD_ := Aside0.mk (blk_below KD.out hb)
      have nHBW_ := Aside0.mk (below_step HBW.out hb)
      clear KA KR HB HT KT QW KW KN QL HBA KALL HBF KFALL QP QU KD HBW
      have KA := nKA_; have KR := nKR_; have HB := nHB_; have HT := nHT_; have KT := nKT_; have QW := nQW_; have KW := nKW_; have KN := nKN_; have QL := nQL_; have HBA := nHBA_; have KALL := nKALL_; have HBF := nHBF_; have KFALL := nKFALL_; have QP := nQP_; have QU := nQU_; have KD := nKD_; have HBW := nHBW_
      clear nKA_ nKR_ nHB_ nHT_ nKT_ nQW_ nKW_ nKN_ nQL_ nHBA_ nKALL_ nHBF_ nKFALL_ nQP_ nQU_ nKD_ nHBW_
      clear hb; have QZ := hQZ; clear hQZ
      clear qKFALL0 qKN0
      gi_wp2_with fail
      have HBZ := Aside0.mk (Below.refl w9.heap.size w9)
      refine wpIn_loop (fun a W => ∃ (j : Nat) (y157 y158 y159 y160 y161 y162 y163 y164 y165 y166 y167 y168 y169 y170 y171 y172 y173 y174 y175 y176 y177 y178 y179 : Value), a = { tmps := #[.agg #[.int .i64 n0, .slice A0 l0.length c0], .int .i64 el, .int .i64 stop, .pointer (some ⟨w.heap.size, 0, none⟩), undef, undef, .pointer (some ⟨w.heap.size + 1, 0, none⟩), .pointer (some ⟨w1.heap.size, 0, none⟩), .pointer (some ⟨w2.heap.size, 0, none⟩), .pointer (some ⟨w2.heap.size + 1, 0, none⟩), .slice AL xs.length cL, .pointer (some ⟨w5.heap.size, 0, none⟩), .pointer (some ⟨w6.heap.size, 0, none⟩), .slice AP (min stop.toNat xs.length) cP, .bool true, .slice AU xs.length cU, .bool true, .pointer (some ⟨w8.heap.size, 0, none⟩), undef, undef, undef, undef, undef, .int .i64 stop, .slice AZ xs.length cZ, .bool true, .int .i64 j, .agg #[.int .i64 n0, .slice A0 l0.length c0], .agg #[.int .i64 n0, .slice (some ⟨gT, 0, none⟩) l0.length capT], .agg #[.int .i64 n0, .slice A0 l0.length c0], .slice AW xs.length cW, .slice AW xs.length cW, .int .i64 xs.length, .agg #[.int .i64 n0, .slice (some ⟨gT, 0, none⟩) l0.length capT], .slice AL xs.length cL, .agg #[.int .i64 n0, .slice (some ⟨gT, 0, none⟩) l0.length capT], .int .i64 el, .bool bh, .agg #[.int .i64 n0, .slice A0 l0.length c0], .int .i64 el, .bool bh, .bool false, .bool false, .agg #[.int .i64 n0, .slice (some ⟨gT, 0, none⟩) l0.length capT], .int .i64 xs.length, .int .i64 xs.length, .bool false, .bool false, .bool false, .slice AL xs.length cL, .slice AW xs.length cW, .bool true, .bool false, .bool false, .agg #[.int .i64 n0, .slice (some ⟨gT, 0, none⟩) l0.length capT], .func (.func 82) #[] lbA, .agg #[.int .i64 n0, .slice (some ⟨gT, 0, none⟩) l0.length capT], .func (.func 83) #[] lbF, .func (.func 82) #[] lbA, .bool false, .bool false, .func (.func 83) #[] lbF, .bool false, .bool false, .bool false, .int .i64 stop, .bool false, .bool false, undef, undef, undef, undef, undef, undef, .tuple #[.slice AP (min stop.toNat xs.length) cP, .bool true], .func (.func 82) #[] lbA, .int .i64 stop, .tuple #[.slice AP (min stop.toNat xs.length) cP, .bool true], .slice AP (min stop.toNat xs.length) cP, .bool true, .tuple #[.slice AU xs.length cU, .bool true], .func (.func 82) #[] lbA, .int .i64 xs.length, .int .i64 (xs.length + 9), .tuple #[.slice AU xs.length cU, .bool true], .slice AU xs.length cU, .bool true, .func (.func 82) #[] lbA, undef, undef, undef, undef, undef, undef, undef, undef, undef, undef, undef, undef, undef, undef, undef, undef, undef, undef, undef, undef, undef, undef, undef, undef, undef, undef, undef, undef, undef, undef, undef, undef, undef, undef, undef, undef, undef, undef, undef, undef, undef, undef, undef, undef, undef, undef, undef, undef, undef, undef, undef, undef, undef, undef, undef, undef, undef, .int .i64 xs.length, .int .i64 stop, .int .i64 xs.length, .bool true, .int .i64 stop, .tuple #[.slice AZ xs.length cZ, .bool true], .func (.func 83) #[] lbF, .int .i64 xs.length, .int .i64 (xs.length + 9), .tuple #[.slice AZ xs.length cZ, .bool true], .slice AZ xs.length cZ, .bool true, y157, y158, y159, y160, y161, y162, y163, y164, y165, y166, y167, y168, y169, y170, y171, y172, y173, y174, y175, y176, y177, y178, y179, undef, undef, undef, undef, undef, undef, undef, undef, undef, undef, undef, undef, undef, undef, undef, undef, undef, undef, undef, undef, undef], defers := [{ target := .collected D, args := #[] }] } ∧ Aside0 (j ≤ xs.length) ∧ Aside0 (Below w9.heap.size w9 W))
        (fun a _ => xs.length - (intOf (a.tmps.getD 26 undef)).toNat) ?start ?round
      case start => exact ⟨0, undef, undef, undef, undef, undef, undef, undef, undef, undef, undef, undef, undef, undef, undef, undef, undef, undef, undef, undef, undef, undef, undef, undef, rfl, ⟨Nat.zero_le _⟩, HBZ⟩
      case round =>
        rintro a W2 ⟨j, y157, y158, y159, y160, y161, y162, y163, y164, y165, y166, y167, y168, y169, y170, y171, y172, y173, y174, y175, y176, y177, y178, y179, rfl, hj, HZ⟩
        clear HBZ
        have hb := HZ.out
        have nKA_ := Aside0.mk (blk_below KA.out hb)
        have nKR_ := Aside0.mk (blk_below KR.out hb)
        have nHB_ := Aside0.mk (below_step HB.out hb)
        have nHT_ := Aside0.mk (Kd.R_below HT.out hb)
        have nKT_ := Aside0.mk (blk_below KT.out hb)
        have nQW_ := Aside0.mk (Kd.C_below QW.out hb)
        have nKW_ := Aside0.mk (blk_below KW.out hb)
        have nKN_ := Aside0.mk (blk_below KN.out hb)
        have nQL_ := Aside0.mk (Kd.C_below QL.out hb)
        have nHBA_ := Aside0.mk (below_step HBA.out hb)
        have nKALL_ := Aside0.mk (blk_below KALL.out hb)
        have nHBF_ := Aside0.mk (below_step HBF.out hb)
        have nKFALL_ := Aside0.mk (blk_below KFALL.out hb)
        have nQP_ := Aside0.mk (Kd.C_below QP.out hb)
        have nQU_ := Aside0.mk (Kd.C_below QU.out hb)
        have nKD_ := Aside0.mk (blk_below KD.out hb)
        have nHBW_ := Aside0.mk (below_step HBW.out hb)
        have nQZ_ := Aside0.mk (Kd.C_below QZ.out hb)
        clear KA KR HB HT KT QW KW KN QL HBA KALL HBF KFALL QP QU KD HBW QZ
        have KA := nKA_; have KR := nKR_; have HB := nHB_; have HT := nHT_; have KT := nKT_; have QW := nQW_; have KW := nKW_; have KN := nKN_; have QL := nQL_; have HBA := nHBA_; have KALL := nKALL_; have HBF := nHBF_; have KFALL := nKFALL_; have QP := nQP_; have QU := nQU_; have KD := nKD_; have HBW := nHBW_; have QZ := nQZ_
        clear nKA_ nKR_ nHB_ nHT_ nKT_ nQW_ nKW_ nKN_ nQL_ nHBA_ nKALL_ nHBF_ nKFALL_ nQP_ nQU_ nKD_ nHBW_ nQZ_
        clear hb; have HB2 := HZ; clear HZ
        by_cases hlt : j < xs.length
        · have hpl2 : j ≤ 4096 := by omega
          have hd : decide ((j : Int) < (xs.length : Int)) = true := decide_eq_true (by omega)
          have hd2 : decide ((xs.length : Int) ≤ (j : Int)) = false := decide_eq_false (by omega)
          have hd3 : decide (xs.length ≤ j) = false := decide_eq_false (by omega)
          have hd4 : ¬ xs.length ≤ j := by omega
          have hx0 : (0 : Int) ≤ (xs.length : Int) - 1 - (j : Int) := by omega
          have hx1 : (xs.length : Int) - 1 - (j : Int) < (xs.length : Int) := by omega
          have hx2 := wrap_in (show -9223372036854775808 ≤ (xs.length : Int) - 1 by omega) (by omega)
          have hx3 := wrap_in (show -9223372036854775808 ≤ (xs.length : Int) - 1 - (j : Int) by omega) (by omega)
          have hx6 : ¬ ((xs.length : Int) - 1 < (j : Int)) := by omega
          have hx7 : (j : Int) ≤ (xs.length : Int) - 1 := by omega
          have hx4 : (j : Int) < (xs.length : Int) := by omega
          have hx5 : (0 : Int) ≤ (j : Int) := by omega
          obtain ⟨adW, eW, qW⟩ := Kd.at_int QW.out ((xs.length : Int) - 1 - (j : Int)) (by omega) (by omega)
          subst eW
          obtain ⟨adD, eD, qD⟩ := Kd.at_int QZ.out (j : Int) (by omega) (by omega)
          subst eD
          rw [rev_at2 hlt, Int.toNat_natCast] at qD
          rw [show ((xs.length : Int) - 1 - (j : Int)).toNat = xs.length - 1 - j by omega] at qW
          obtain ⟨v, hv⟩ : ∃ v, rd xs ((xs.length : Int) - 1 - (j : Int)) = v := ⟨_, rfl⟩
          rw [hv] at qW qD; clear hv
          have qKN0 := (blk_cell KN.out 0).trans rfl
          have qKW0 := (blk_cell KW.out 0).trans rfl
          gi_wp2_with fail
          refine wpIn_wide.2 ?_
          go_region_held3 (fun w' => w'.cell? ⟨w2.heap.size + 1, 0, none⟩ = some (.int .i64 xs.length) ∧ w'.cell? ⟨w2.heap.size, 0, none⟩ = some (.slice (some adW) xs.length cW) ∧ w'.cell? (adW.add (xs.length - 1 - j)) = some (.int .i64 v) ∧ w'.cell? (adD.add j) = some (.int .i64 v))
            (exact ⟨qKN0, qKW0, qW, qD⟩)
            (fail)
          gi_wp2_with fail
          exact ⟨⟨j + 1, _, _, _, _, _, _, _, _, _, _, _, _, _, _, _, _, _, _, _, _, _, _, _, rfl, ⟨hlt⟩, ⟨below_drew1 HB2.out⟩⟩, el_measure hlt⟩
        · have hje : j = xs.length := by have := hj.out; omega
          subst hje
          have hd : decide ((xs.length : Int) < (xs.length : Int)) = false := decide_eq_false (by omega)
          have qKW0 := (blk_cell KW.out 0).trans rfl
          gi_wp2_with fail
          refine ⟨trivial, ?_⟩; gi_at_call 38
          refine (callsIn_wide.2 (same_at kS _ _ xs _ _ xs xs.length xs.length _ rfl rfl QU.out lQU.out QW.out lW.out HSm.out)).mono ?_
          rintro e w10 ⟨rfl, hb⟩
          clear qKW0
          have nKA_ := Aside0.mk (blk_below KA.out hb)
          have nKR_ := Aside0.mk (blk_below KR.out hb)
          have nHB_ := Aside0.mk (below_step HB.out hb)
          have nHT_ := Aside0.mk (Kd.R_below HT.out hb)
          have nKT_ := Aside0.mk (blk_below KT.out hb)
          have nQW_ := Aside0.mk (Kd.C_below QW.out hb)
          have nKW_ := Aside0.mk (blk_below KW.out hb)
          have nKN_ := Aside0.mk (blk_below KN.out hb)
          have nQL_ := Aside0.mk (Kd.C_below QL.out hb)
          have nHBA_ := Aside0.mk (below_step HBA.out hb)
          have nKALL_ := Aside0.mk (blk_below KALL.out hb)
          have nHBF_ := Aside0.mk (below_step HBF.out hb)
          have nKFALL_ := Aside0.mk (blk_below KFALL.out hb)
          have nQP_ := Aside0.mk (Kd.C_below QP.out hb)
          have nQU_ := Aside0.mk (Kd.C_below QU.out hb)
          have nKD_ := Aside0.mk (blk_below KD.out hb)
          have nHBW_ := Aside0.mk (below_step HBW.out hb)
          have nQZ_ := Aside0.mk (Kd.C_below QZ.out hb)
          clear KA KR HB HT KT QW KW KN QL HBA KALL HBF KFALL QP QU KD HBW QZ
          have KA := nKA_; have KR := nKR_; have HB := nHB_; have HT := nHT_; have KT := nKT_; have QW := nQW_; have KW := nKW_; have KN := nKN_; have QL := nQL_; have HBA := nHBA_; have KALL := nKALL_; have HBF := nHBF_; have KFALL := nKFALL_; have QP := nQP_; have QU := nQU_; have KD := nKD_; have HBW := nHBW_; have QZ := nQZ_
          clear nKA_ nKR_ nHB_ nHT_ nKT_ nQW_ nKW_ nKN_ nQL_ nHBA_ nKALL_ nHBF_ nKFALL_ nQP_ nQU_ nKD_ nHBW_ nQZ_
          clear hb
          have qKW0 := (blk_cell KW.out 0).trans rfl
          have hst0 : 0 ≤ stop := by omega
          have hlW := lW.out
          have hsc : stop ≤ (cW : Int) := by omega
          gi_wp2_with fail
          refine ⟨trivial, ?_⟩; gi_at_call 38
          refine (callsIn_wide.2 (same_at kS2 _ _ (xs.take stop.toNat) _ _ (xs.take stop.toNat) (min stop.toNat xs.length) stop.toNat _ List.length_take (by rw [List.length_take]; omega) QP.out lQP.out (Kd.C_take QW.out (by omega)) (by rw [List.length_take]; omega) HS2.out)).mono ?_
          rintro e w11 ⟨rfl, hb⟩
          clear qKW0
          have nKA_ := Aside0.mk (blk_below KA.out hb)
          have nKR_ := Aside0.mk (blk_below KR.out hb)
          have nHB_ := Aside0.mk (below_step HB.out hb)
          have nHT_ := Aside0.mk (Kd.R_below HT.out hb)
          have nKT_ := Aside0.mk (blk_below KT.out hb)
          have nQW_ := Aside0.mk (Kd.C_below QW.out hb)
          have nKW_ := Aside0.mk (blk_below KW.out hb)
          have nKN_ := Aside0.mk (blk_below KN.out hb)
          have nQL_ := Aside0.mk (Kd.C_below QL.out hb)
          have nHBA_ := Aside0.mk (below_step HBA.out hb)
          have nKALL_ := Aside0.mk (blk_below KALL.out hb)
          have nHBF_ := Aside0.mk (below_step HBF.out hb)
          have nKFALL_ := Aside0.mk (blk_below KFALL.out hb)
          have nQP_ := Aside0.mk (Kd.C_below QP.out hb)
          have nQU_ := Aside0.mk (Kd.C_below QU.out hb)
          have nKD_ := Aside0.mk (blk_below KD.out hb)
          have nHBW_ := Aside0.mk (below_step HBW.out hb)
          have nQZ_ := Aside0.mk (Kd.C_below QZ.out hb)
          clear KA KR HB HT KT QW KW KN QL HBA KALL HBF KFALL QP QU KD HBW QZ
          have KA := nKA_; have KR := nKR_; have HB := nHB_; have HT := nHT_; have KT := nKT_; have QW := nQW_; have KW := nKW_; have KN := nKN_; have QL := nQL_; have HBA := nHBA_; have KALL := nKALL_; have HBF := nHBF_; have KFALL := nKFALL_; have QP := nQP_; have QU := nQU_; have KD := nKD_; have HBW := nHBW_; have QZ := nQZ_
          clear nKA_ nKR_ nHB_ nHT_ nKT_ nQW_ nKW_ nKN_ nQL_ nHBA_ nKALL_ nHBF_ nKFALL_ nQP_ nQU_ nKD_ nHBW_ nQZ_
          clear hb
          have qKN0 := (blk_cell KN.out 0).trans rfl
          have qKT0 := (blk_cell KT.out 0).trans rfl; have qKT1 := (blk_cell KT.out 1).trans rfl
          have qKA0 := (blk_cell KA.out 0).trans rfl; have qKA1 := (blk_cell KA.out 1).trans rfl
          gi_wp2_with fail
          refine ⟨trivial, ?_⟩; gi_at_call 22
          refine (callsIn_wide.2 (kept_marked n0 gT capT l0 A0 c0 _ (Kd.R_reads' HT.out).2.2 (Kd.R_reads' HT.out).2.1 (Kd.C_below HC.out HB.out) hc0)).mono ?_
          rintro e w12 ⟨rfl, hb⟩
          clear qKN0
          clear qKA0 qKA1 qKT0 qKT1
          have nKA_ := Aside0.mk (blk_below KA.out hb)
          have nKR_ := Aside0.mk (blk_below KR.out hb)
          have nHB_ := Aside0.mk (below_step HB.out hb)
          have nKT_ := Aside0.mk (blk_below KT.out hb)
          have nQW_ := Aside0.mk (Kd.C_below QW.out hb)
          have nKW_ := Aside0.mk (blk_below KW.out hb)
          have nKN_ := Aside0.mk (blk_below KN.out hb)
          have nQL_ := Aside0.mk (Kd.C_below QL.out hb)
          have nHBA_ := Aside0.mk (below_step HBA.out hb)
          have nKALL_ := Aside0.mk (blk_below KALL.out hb)
          have nHBF_ := Aside0.mk (below_step HBF.out hb)
          have nKFALL_ := Aside0.mk (blk_below KFALL.out hb)
          have nQP_ := Aside0.mk (Kd.C_below QP.out hb)
          have nQU_ := Aside0.mk (Kd.C_below QU.out hb)
          have nKD_ := Aside0.mk (blk_below KD.out hb)
          have nHBW_ := Aside0.mk (below_step HBW.out hb)
          have nQZ_ := Aside0.mk (Kd.C_below QZ.out hb)
          clear KA KR HB KT QW KW KN QL HBA KALL HBF KFALL QP QU KD HBW QZ HT
          have KA := nKA_; have KR := nKR_; have HB := nHB_; have KT := nKT_; have QW := nQW_; have KW := nKW_; have KN := nKN_; have QL := nQL_; have HBA := nHBA_; have KALL := nKALL_; have HBF := nHBF_; have KFALL := nKFALL_; have QP := nQP_; have QU := nQU_; have KD := nKD_; have HBW := nHBW_; have QZ := nQZ_
          clear nKA_ nKR_ nHB_ nKT_ nQW_ nKW_ nKN_ nQL_ nHBA_ nKALL_ nHBF_ nKFALL_ nQP_ nQU_ nKD_ nHBW_ nQZ_
          clear hb
          have qKR0 := (blk_cell KR.out 0).trans rfl
          have zR := blk_frozen KR.out 0
          gi_wp2_with fail
          obtain ⟨X, hX⟩ : ∃ X, w12.setCell ⟨w.heap.size + 1, 0, none⟩ (Value.bool true) = X := ⟨_, rfl⟩
          have hXD : X.heap[D]? = some (.deferred (some [])) := hX ▸ (KeepsOthers.setCell w12 ⟨w.heap.size + 1, 0, none⟩ (Value.bool true)).same D _ KD.out rfl
          have hXg : X.heap[w.heap.size + 1]? = some (.cells #[.bool true] 4 (0, 0)) := hX ▸ blk_put KR.out 0 (Value.bool true) rfl
          have hXB : Below w.heap.size w X := hX ▸ below_set HB.out (Nat.le_succ _)
          rw [hX]
          have hwD : w.heap.size ≤ D := by have := HW0.out; rw [hsk] at hD; omega
          clear hX
          refine ⟨by simp, .inl ⟨_, _, rfl, run_takeDeferred hXD, ?_⟩⟩
          have hg := grownBy_putObj' X D (.deferred none)
          have hr : ∀ r, some D = some r → w.heap.size ≤ r ∧ ∃ o : Obj, X.heap[r]? = some o ∧ o.isCells = false := by
            rintro r e; cases e; exact ⟨hwD, _, hXD, rfl⟩
          have c0_ := (blk_cell (blk_abide hXg hg hr) 0).trans rfl
          refine ⟨.bool true, ?_, rfl, hXB.grown hg (below_size hXB) (fun k e => (hr k e).1)⟩
          simp [results, Tryd.f6, go_sem, c0_]
    · have hs4 : decide (stop < (xs.length : Int)) = false := decide_eq_false hsn
      have qKFALL0 := (blk_cell KFALL.out 0).trans rfl
      have qKN0 := (blk_cell KN.out 0).trans rfl
      gi_wp2_with fail
      refine ⟨trivial, ?_⟩; gi_at_call 41
      refine ((callsIn_wide.2 (heard_at KIF 83 lbF xs.reverse xs.reverse ((xs.length : Int) + 9) xs.length _ (Iter.later IF.out HBF.out) (fun k hk => Nat.lt_of_lt_of_le (lIF.out k hk) (below_size HBF.out)) (enters_of Tryd.func83 (by kernel_rfl) rfl) (by rw [List.length_reverse]; exact hxl) (List.take_of_length_le (by rw [List.length_reverse]; omega)) (List.length_reverse)))).mono ?_
      rintro e w9 ⟨AZ, cZ, rfl, mQZ, lQZ_, hb⟩
      have lQZ := Aside0.mk lQZ_; have hQZ := Aside0.mk mQZ; clear lQZ_ mQZ
      have nKA_ := Aside0.mk (blk_below KA.out hb)
      have nKR_ := Aside0.mk (blk_below KR.out hb)
      have nHB_ := Aside0.mk (below_step HB.out hb)
      have nHT_ := Aside0.mk (Kd.R_below HT.out hb)
      have nKT_ := Aside0.mk (blk_below KT.out hb)
      have nQW_ := Aside0.mk (Kd.C_below QW.out hb)
      have nKW_ := Aside0.mk (blk_below KW.out hb)
      have nKN_ := Aside0.mk (blk_below KN.out hb)
      have nQL_ := Aside0.mk (Kd.C_below QL.out hb)
      have nHBA_ := Aside0.mk (below_step HBA.out hb)
      have nKALL_ := Aside0.mk (blk_below KALL.out hb)
      have nHBF_ := Aside0.mk (below_step HBF.out hb)
      have nKFALL_ := Aside0.mk (blk_below KFALL.out hb)
      have nQP_ := Aside0.mk (Kd.C_below QP.out hb)
      have nQU_ := Aside0.mk (Kd.C_below QU.out hb)
      have nKD_ := Aside0.mk (blk_below KD.out hb)
      have nHBW_ := Aside0.mk (below_step HBW.out hb)
      clear KA KR HB HT KT QW KW KN QL HBA KALL HBF KFALL QP QU KD HBW
      have KA := nKA_; have KR := nKR_; have HB := nHB_; have HT := nHT_; have KT := nKT_; have QW := nQW_; have KW := nKW_; have KN := nKN_; have QL := nQL_; have HBA := nHBA_; have KALL := nKALL_; have HBF := nHBF_; have KFALL := nKFALL_; have QP := nQP_; have QU := nQU_; have KD := nKD_; have HBW := nHBW_
      clear nKA_ nKR_ nHB_ nHT_ nKT_ nQW_ nKW_ nKN_ nQL_ nHBA_ nKALL_ nHBF_ nKFALL_ nQP_ nQU_ nKD_ nHBW_
      clear hb; have QZ := hQZ; clear hQZ
      clear qKFALL0 qKN0
      gi_wp2_with fail
      have HBZ := Aside0.mk (Below.refl w9.heap.size w9)
      refine wpIn_loop (fun a W => ∃ (j : Nat) (y157 y158 y159 y160 y161 y162 y163 y164 y165 y166 y167 y168 y169 y170 y171 y172 y173 y174 y175 y176 y177 y178 y179 : Value), a = { tmps := #[.agg #[.int .i64 n0, .slice A0 l0.length c0], .int .i64 el, .int .i64 stop, .pointer (some ⟨w.heap.size, 0, none⟩), undef, undef, .pointer (some ⟨w.heap.size + 1, 0, none⟩), .pointer (some ⟨w1.heap.size, 0, none⟩), .pointer (some ⟨w2.heap.size, 0, none⟩), .pointer (some ⟨w2.heap.size + 1, 0, none⟩), .slice AL xs.length cL, .pointer (some ⟨w5.heap.size, 0, none⟩), .pointer (some ⟨w6.heap.size, 0, none⟩), .slice AP xs.length cP, .bool true, .slice AU xs.length cU, .bool true, .pointer (some ⟨w8.heap.size, 0, none⟩), undef, undef, undef, undef, undef, .int .i64 xs.length, .slice AZ xs.length cZ, .bool true, .int .i64 j, .agg #[.int .i64 n0, .slice A0 l0.length c0], .agg #[.int .i64 n0, .slice (some ⟨gT, 0, none⟩) l0.length capT], .agg #[.int .i64 n0, .slice A0 l0.length c0], .slice AW xs.length cW, .slice AW xs.length cW, .int .i64 xs.length, .agg #[.int .i64 n0, .slice (some ⟨gT, 0, none⟩) l0.length capT], .slice AL xs.length cL, .agg #[.int .i64 n0, .slice (some ⟨gT, 0, none⟩) l0.length capT], .int .i64 el, .bool bh, .agg #[.int .i64 n0, .slice A0 l0.length c0], .int .i64 el, .bool bh, .bool false, .bool false, .agg #[.int .i64 n0, .slice (some ⟨gT, 0, none⟩) l0.length capT], .int .i64 xs.length, .int .i64 xs.length, .bool false, .bool false, .bool false, .slice AL xs.length cL, .slice AW xs.length cW, .bool true, .bool false, .bool false, .agg #[.int .i64 n0, .slice (some ⟨gT, 0, none⟩) l0.length capT], .func (.func 82) #[] lbA, .agg #[.int .i64 n0, .slice (some ⟨gT, 0, none⟩) l0.length capT], .func (.func 83) #[] lbF, .func (.func 82) #[] lbA, .bool false, .bool false, .func (.func 83) #[] lbF, .bool false, .bool false, .bool false, .int .i64 stop, .bool false, .bool false, undef, undef, undef, undef, undef, undef, .tuple #[.slice AP xs.length cP, .bool true], .func (.func 82) #[] lbA, .int .i64 stop, .tuple #[.slice AP xs.length cP, .bool true], .slice AP xs.length cP, .bool true, .tuple #[.slice AU xs.length cU, .bool true], .func (.func 82) #[] lbA, .int .i64 xs.length, .int .i64 (xs.length + 9), .tuple #[.slice AU xs.length cU, .bool true], .slice AU xs.length cU, .bool true, .func (.func 82) #[] lbA, undef, undef, undef, undef, undef, undef, undef, undef, undef, undef, undef, undef, undef, undef, undef, undef, undef, undef, undef, undef, undef, undef, undef, undef, undef, undef, undef, undef, undef, undef, undef, undef, undef, undef, undef, undef, undef, undef, undef, undef, undef, undef, undef, undef, undef, undef, undef, undef, undef, undef, undef, undef, undef, undef, undef, undef, undef, .int .i64 xs.length, .int .i64 stop, .int .i64 xs.length, .bool false, undef, .tuple #[.slice AZ xs.length cZ, .bool true], .func (.func 83) #[] lbF, .int .i64 xs.length, .int .i64 (xs.length + 9), .tuple #[.slice AZ xs.length cZ, .bool true], .slice AZ xs.length cZ, .bool true, y157, y158, y159, y160, y161, y162, y163, y164, y165, y166, y167, y168, y169, y170, y171, y172, y173, y174, y175, y176, y177, y178, y179, undef, undef, undef, undef, undef, undef, undef, undef, undef, undef, undef, undef, undef, undef, undef, undef, undef, undef, undef, undef, undef], defers := [{ target := .collected D, args := #[] }] } ∧ Aside0 (j ≤ xs.length) ∧ Aside0 (Below w9.heap.size w9 W))
        (fun a _ => xs.length - (intOf (a.tmps.getD 26 undef)).toNat) ?start ?round
      case start => exact ⟨0, undef, undef, undef, undef, undef, undef, undef, undef, undef, undef, undef, undef, undef, undef, undef, undef, undef, undef, undef, undef, undef, undef, undef, rfl, ⟨Nat.zero_le _⟩, HBZ⟩
      case round =>
        rintro a W2 ⟨j, y157, y158, y159, y160, y161, y162, y163, y164, y165, y166, y167, y168, y169, y170, y171, y172, y173, y174, y175, y176, y177, y178, y179, rfl, hj, HZ⟩
        clear HBZ
        have hb := HZ.out
        have nKA_ := Aside0.mk (blk_below KA.out hb)
        have nKR_ := Aside0.mk (blk_below KR.out hb)
        have nHB_ := Aside0.mk (below_step HB.out hb)
        have nHT_ := Aside0.mk (Kd.R_below HT.out hb)
        have nKT_ := Aside0.mk (blk_below KT.out hb)
        have nQW_ := Aside0.mk (Kd.C_below QW.out hb)
        have nKW_ := Aside0.mk (blk_below KW.out hb)
        have nKN_ := Aside0.mk (blk_below KN.out hb)
        have nQL_ := Aside0.mk (Kd.C_below QL.out hb)
        have nHBA_ := Aside0.mk (below_step HBA.out hb)
        have nKALL_ := Aside0.mk (blk_below KALL.out hb)
        have nHBF_ := Aside0.mk (below_step HBF.out hb)
        have nKFALL_ := Aside0.mk (blk_below KFALL.out hb)
        have nQP_ := Aside0.mk (Kd.C_below QP.out hb)
        have nQU_ := Aside0.mk (Kd.C_below QU.out hb)
        have nKD_ := Aside0.mk (blk_below KD.out hb)
        have nHBW_ := Aside0.mk (below_step HBW.out hb)
        have nQZ_ := Aside0.mk (Kd.C_below QZ.out hb)
        clear KA KR HB HT KT QW KW KN QL HBA KALL HBF KFALL QP QU KD HBW QZ
        have KA := nKA_; have KR := nKR_; have HB := nHB_; have HT := nHT_; have KT := nKT_; have QW := nQW_; have KW := nKW_; have KN := nKN_; have QL := nQL_; have HBA := nHBA_; have KALL := nKALL_; have HBF := nHBF_; have KFALL := nKFALL_; have QP := nQP_; have QU := nQU_; have KD := nKD_; have HBW := nHBW_; have QZ := nQZ_
        clear nKA_ nKR_ nHB_ nHT_ nKT_ nQW_ nKW_ nKN_ nQL_ nHBA_ nKALL_ nHBF_ nKFALL_ nQP_ nQU_ nKD_ nHBW_ nQZ_
        clear hb; have HB2 := HZ; clear HZ
        by_cases hlt : j < xs.length
        · have hpl2 : j ≤ 4096 := by omega
          have hd : decide ((j : Int) < (xs.length : Int)) = true := decide_eq_true (by omega)
          have hd2 : decide ((xs.length : Int) ≤ (j : Int)) = false := decide_eq_false (by omega)
          have hd3 : decide (xs.length ≤ j) = false := decide_eq_false (by omega)
          have hd4 : ¬ xs.length ≤ j := by omega
          have hx0 : (0 : Int) ≤ (xs.length : Int) - 1 - (j : Int) := by omega
          have hx1 : (xs.length : Int) - 1 - (j : Int) < (xs.length : Int) := by omega
          have hx2 := wrap_in (show -9223372036854775808 ≤ (xs.length : Int) - 1 by omega) (by omega)
          have hx3 := wrap_in (show -9223372036854775808 ≤ (xs.length : Int) - 1 - (j : Int) by omega) (by omega)
          have hx6 : ¬ ((xs.length : Int) - 1 < (j : Int)) := by omega
          have hx7 : (j : Int) ≤ (xs.length : Int) - 1 := by omega
          have hx4 : (j : Int) < (xs.length : Int) := by omega
          have hx5 : (0 : Int) ≤ (j : Int) := by omega
          obtain ⟨adW, eW, qW⟩ := Kd.at_int QW.out ((xs.length : Int) - 1 - (j : Int)) (by omega) (by omega)
          subst eW
          obtain ⟨adD, eD, qD⟩ := Kd.at_int QZ.out (j : Int) (by omega) (by omega)
          subst eD
          rw [rev_at2 hlt, Int.toNat_natCast] at qD
          rw [show ((xs.length : Int) - 1 - (j : Int)).toNat = xs.length - 1 - j by omega] at qW
          obtain ⟨v, hv⟩ : ∃ v, rd xs ((xs.length : Int) - 1 - (j : Int)) = v := ⟨_, rfl⟩
          rw [hv] at qW qD; clear hv
          have qKN0 := (blk_cell KN.out 0).trans rfl
          have qKW0 := (blk_cell KW.out 0).trans rfl
          gi_wp2_with fail
          refine wpIn_wide.2 ?_
          go_region_held3 (fun w' => w'.cell? ⟨w2.heap.size + 1, 0, none⟩ = some (.int .i64 xs.length) ∧ w'.cell? ⟨w2.heap.size, 0, none⟩ = some (.slice (some adW) xs.length cW) ∧ w'.cell? (adW.add (xs.length - 1 - j)) = some (.int .i64 v) ∧ w'.cell? (adD.add j) = some (.int .i64 v))
            (exact ⟨qKN0, qKW0, qW, qD⟩)
            (fail)
          gi_wp2_with fail
          exact ⟨⟨j + 1, _, _, _, _, _, _, _, _, _, _, _, _, _, _, _, _, _, _, _, _, _, _, _, rfl, ⟨hlt⟩, ⟨below_drew1 HB2.out⟩⟩, el_measure hlt⟩
        · have hje : j = xs.length := by have := hj.out; omega
          subst hje
          have hd : decide ((xs.length : Int) < (xs.length : Int)) = false := decide_eq_false (by omega)
          have qKW0 := (blk_cell KW.out 0).trans rfl
          gi_wp2_with fail
          refine ⟨trivial, ?_⟩; gi_at_call 38
          refine (callsIn_wide.2 (same_at kS _ _ xs _ _ xs xs.length xs.length _ rfl rfl QU.out lQU.out QW.out lW.out HSm.out)).mono ?_
          rintro e w10 ⟨rfl, hb⟩
          clear qKW0
          have nKA_ := Aside0.mk (blk_below KA.out hb)
          have nKR_ := Aside0.mk (blk_below KR.out hb)
          have nHB_ := Aside0.mk (below_step HB.out hb)
          have nHT_ := Aside0.mk (Kd.R_below HT.out hb)
          have nKT_ := Aside0.mk (blk_below KT.out hb)
          have nQW_ := Aside0.mk (Kd.C_below QW.out hb)
          have nKW_ := Aside0.mk (blk_below KW.out hb)
          have nKN_ := Aside0.mk (blk_below KN.out hb)
          have nQL_ := Aside0.mk (Kd.C_below QL.out hb)
          have nHBA_ := Aside0.mk (below_step HBA.out hb)
          have nKALL_ := Aside0.mk (blk_below KALL.out hb)
          have nHBF_ := Aside0.mk (below_step HBF.out hb)
          have nKFALL_ := Aside0.mk (blk_below KFALL.out hb)
          have nQP_ := Aside0.mk (Kd.C_below QP.out hb)
          have nQU_ := Aside0.mk (Kd.C_below QU.out hb)
          have nKD_ := Aside0.mk (blk_below KD.out hb)
          have nHBW_ := Aside0.mk (below_step HBW.out hb)
          have nQZ_ := Aside0.mk (Kd.C_below QZ.out hb)
          clear KA KR HB HT KT QW KW KN QL HBA KALL HBF KFALL QP QU KD HBW QZ
          have KA := nKA_; have KR := nKR_; have HB := nHB_; have HT := nHT_; have KT := nKT_; have QW := nQW_; have KW := nKW_; have KN := nKN_; have QL := nQL_; have HBA := nHBA_; have KALL := nKALL_; have HBF := nHBF_; have KFALL := nKFALL_; have QP := nQP_; have QU := nQU_; have KD := nKD_; have HBW := nHBW_; have QZ := nQZ_
          clear nKA_ nKR_ nHB_ nHT_ nKT_ nQW_ nKW_ nKN_ nQL_ nHBA_ nKALL_ nHBF_ nKFALL_ nQP_ nQU_ nKD_ nHBW_ nQZ_
          clear hb
          have qKW0 := (blk_cell KW.out 0).trans rfl
          have hst0 : 0 ≤ stop := by omega
          have hlW := lW.out
          have hsc : (xs.length : Int) ≤ (cW : Int) := by omega
          gi_wp2_with fail
          refine ⟨trivial, ?_⟩; gi_at_call 38
          refine (callsIn_wide.2 (same_at kS _ _ (xs.take stop.toNat) _ _ xs xs.length xs.length _ (by rw [List.length_take]; omega) rfl QP.out lQP.out QW.out lW.out (by rw [List.take_of_length_le (by omega)]; exact HSm.out))).mono ?_
          rintro e w11 ⟨rfl, hb⟩
          clear qKW0
          have nKA_ := Aside0.mk (blk_below KA.out hb)
          have nKR_ := Aside0.mk (blk_below KR.out hb)
          have nHB_ := Aside0.mk (below_step HB.out hb)
          have nHT_ := Aside0.mk (Kd.R_below HT.out hb)
          have nKT_ := Aside0.mk (blk_below KT.out hb)
          have nQW_ := Aside0.mk (Kd.C_below QW.out hb)
          have nKW_ := Aside0.mk (blk_below KW.out hb)
          have nKN_ := Aside0.mk (blk_below KN.out hb)
          have nQL_ := Aside0.mk (Kd.C_below QL.out hb)
          have nHBA_ := Aside0.mk (below_step HBA.out hb)
          have nKALL_ := Aside0.mk (blk_below KALL.out hb)
          have nHBF_ := Aside0.mk (below_step HBF.out hb)
          have nKFALL_ := Aside0.mk (blk_below KFALL.out hb)
          have nQP_ := Aside0.mk (Kd.C_below QP.out hb)
          have nQU_ := Aside0.mk (Kd.C_below QU.out hb)
          have nKD_ := Aside0.mk (blk_below KD.out hb)
          have nHBW_ := Aside0.mk (below_step HBW.out hb)
          have nQZ_ := Aside0.mk (Kd.C_below QZ.out hb)
          clear KA KR HB HT KT QW KW KN QL HBA KALL HBF KFALL QP QU KD HBW QZ
          have KA := nKA_; have KR := nKR_; have HB := nHB_; have HT := nHT_; have KT := nKT_; have QW := nQW_; have KW := nKW_; have KN := nKN_; have QL := nQL_; have HBA := nHBA_; have KALL := nKALL_; have HBF := nHBF_; have KFALL := nKFALL_; have QP := nQP_; have QU := nQU_; have KD := nKD_; have HBW := nHBW_; have QZ := nQZ_
          clear nKA_ nKR_ nHB_ nHT_ nKT_ nQW_ nKW_ nKN_ nQL_ nHBA_ nKALL_ nHBF_ nKFALL_ nQP_ nQU_ nKD_ nHBW_ nQZ_
          clear hb
          have qKN0 := (blk_cell KN.out 0).trans rfl
          have qKT0 := (blk_cell KT.out 0).trans rfl; have qKT1 := (blk_cell KT.out 1).trans rfl
          have qKA0 := (blk_cell KA.out 0).trans rfl; have qKA1 := (blk_cell KA.out 1).trans rfl
          gi_wp2_with fail
          refine ⟨trivial, ?_⟩; gi_at_call 22
          refine (callsIn_wide.2 (kept_marked n0 gT capT l0 A0 c0 _ (Kd.R_reads' HT.out).2.2 (Kd.R_reads' HT.out).2.1 (Kd.C_below HC.out HB.out) hc0)).mono ?_
          rintro e w12 ⟨rfl, hb⟩
          clear qKN0
          clear qKA0 qKA1 qKT0 qKT1
          have nKA_ := Aside0.mk (blk_below KA.out hb)
          have nKR_ := Aside0.mk (blk_below KR.out hb)
          have nHB_ := Aside0.mk (below_step HB.out hb)
          have nKT_ := Aside0.mk (blk_below KT.out hb)
          have nQW_ := Aside0.mk (Kd.C_below QW.out hb)
          have nKW_ := Aside0.mk (blk_below KW.out hb)
          have nKN_ := Aside0.mk (blk_below KN.out hb)
          have nQL_ := Aside0.mk (Kd.C_below QL.out hb)
          have nHBA_ := Aside0.mk (below_step HBA.out hb)
          have nKALL_ := Aside0.mk (blk_below KALL.out hb)
          have nHBF_ := Aside0.mk (below_step HBF.out hb)
          have nKFALL_ := Aside0.mk (blk_below KFALL.out hb)
          have nQP_ := Aside0.mk (Kd.C_below QP.out hb)
          have nQU_ := Aside0.mk (Kd.C_below QU.out hb)
          have nKD_ := Aside0.mk (blk_below KD.out hb)
          have nHBW_ := Aside0.mk (below_step HBW.out hb)
          have nQZ_ := Aside0.mk (Kd.C_below QZ.out hb)
          clear KA KR HB KT QW KW KN QL HBA KALL HBF KFALL QP QU KD HBW QZ HT
          have KA := nKA_; have KR := nKR_; have HB := nHB_; have KT := nKT_; have QW := nQW_; have KW := nKW_; have KN := nKN_; have QL := nQL_; have HBA := nHBA_; have KALL := nKALL_; have HBF := nHBF_; have KFALL := nKFALL_; have QP := nQP_; have QU := nQU_; have KD := nKD_; have HBW := nHBW_; have QZ := nQZ_
          clear nKA_ nKR_ nHB_ nKT_ nQW_ nKW_ nKN_ nQL_ nHBA_ nKALL_ nHBF_ nKFALL_ nQP_ nQU_ nKD_ nHBW_ nQZ_
          clear hb
          have qKR0 := (blk_cell KR.out 0).trans rfl
          have zR := blk_frozen KR.out 0
          gi_wp2_with fail
          obtain ⟨X, hX⟩ : ∃ X, w12.setCell ⟨w.heap.size + 1, 0, none⟩ (Value.bool true) = X := ⟨_, rfl⟩
          have hXD : X.heap[D]? = some (.deferred (some [])) := hX ▸ (KeepsOthers.setCell w12 ⟨w.heap.size + 1, 0, none⟩ (Value.bool true)).same D _ KD.out rfl
          have hXg : X.heap[w.heap.size + 1]? = some (.cells #[.bool true] 4 (0, 0)) := hX ▸ blk_put KR.out 0 (Value.bool true) rfl
          have hXB : Below w.heap.size w X := hX ▸ below_set HB.out (Nat.le_succ _)
          rw [hX]
          have hwD : w.heap.size ≤ D := by have := HW0.out; rw [hsk] at hD; omega
          clear hX
          refine ⟨by simp, .inl ⟨_, _, rfl, run_takeDeferred hXD, ?_⟩⟩
          have hg := grownBy_putObj' X D (.deferred none)
          have hr : ∀ r, some D = some r → w.heap.size ≤ r ∧ ∃ o : Obj, X.heap[r]? = some o ∧ o.isCells = false := by
            rintro r e; cases e; exact ⟨hwD, _, hXD, rfl⟩
          have c0_ := (blk_cell (blk_abide hXg hg hr) 0).trans rfl
          refine ⟨.bool true, ?_, rfl, hXB.grown hg (below_size hXB) (fun k e => (hr k e).1)⟩
          simp [results, Tryd.f6, go_sem, c0_]
  case stop =>
    rintro D c pre W hD hp hX hK
    rcases hX with ⟨rfl, hX1⟩ | ⟨rfl, hX1⟩
    case inr => exact absurd hp hX1
    have hB8 := hX1
    have hb := hB8; have KD := Aside0.mk hK; have xHBW := Aside0.mk hB8; clear hB8 hK
    have nKA_ := Aside0.mk (blk_below KA.out hb)
    have nKR_ := Aside0.mk (blk_below KR.out hb)
    have nHB_ := Aside0.mk (below_step HB.out hb)
    have nHT_ := Aside0.mk (Kd.R_below HT.out hb)
    have nKT_ := Aside0.mk (blk_below KT.out hb)
    have nQW_ := Aside0.mk (Kd.C_below QW.out hb)
    have nKW_ := Aside0.mk (blk_below KW.out hb)
    have nKN_ := Aside0.mk (blk_below KN.out hb)
    have nQL_ := Aside0.mk (Kd.C_below QL.out hb)
    have nHBA_ := Aside0.mk (below_step HBA.out hb)
    have nKALL_ := Aside0.mk (blk_below KALL.out hb)
    have nHBF_ := Aside0.mk (below_step HBF.out hb)
    have nKFALL_ := Aside0.mk (blk_below KFALL.out hb)
    have nQP_ := Aside0.mk (Kd.C_below QP.out hb)
    have nQU_ := Aside0.mk (Kd.C_below QU.out hb)
    clear KA KR HB HT KT QW KW KN QL HBA KALL HBF KFALL QP QU
    have KA := nKA_; have KR := nKR_; have HB := nHB_; have HT := nHT_; have KT := nKT_; have QW := nQW_; have KW := nKW_; have KN := nKN_; have QL := nQL_; have HBA := nHBA_; have KALL := nKALL_; have HBF := nHBF_; have KFALL := nKFALL_; have QP := nQP_; have QU := nQU_
    clear nKA_ nKR_ nHB_ nHT_ nKT_ nQW_ nKW_ nKN_ nQL_ nHBA_ nKALL_ nHBF_ nKFALL_ nQP_ nQU_
    clear hb; have HBW := xHBW; clear xHBW
    by_cases hsn : stop < (xs.length : Int)
    · have hs4 : decide (stop < (xs.length : Int)) = true := decide_eq_true hsn
      have qKFALL0 := (blk_cell KFALL.out 0).trans rfl
      have qKN0 := (blk_cell KN.out 0).trans rfl
      gi_wp2_with fail
      refine ⟨trivial, ?_⟩; gi_at_call 41
      refine ((callsIn_wide.2 (heard_at KIF 83 lbF xs.reverse xs.reverse ((xs.length : Int) + 9) xs.length _ (Iter.later IF.out HBF.out) (fun k hk => Nat.lt_of_lt_of_le (lIF.out k hk) (below_size HBF.out)) (enters_of Tryd.func83 (by kernel_rfl) rfl) (by rw [List.length_reverse]; exact hxl) (List.take_of_length_le (by rw [List.length_reverse]; omega)) (List.length_reverse)))).mono ?_
      rintro e w9 ⟨AZ, cZ, rfl, mQZ, lQZ_, hb⟩
      have lQZ := Aside0.mk lQZ_; have hQZ := Aside0.mk mQZ; clear lQZ_ mQZ
      have nKA_ := Aside0.mk (blk_below KA.out hb)
      have nKR_ := Aside0.mk (blk_below KR.out hb)
      have nHB_ := Aside0.mk (below_step HB.out hb)
      have nHT_ := Aside0.mk (Kd.R_below HT.out hb)
      have nKT_ := Aside0.mk (blk_below KT.out hb)
      have nQW_ := Aside0.mk (Kd.C_below QW.out hb)
      have nKW_ := Aside0.mk (blk_below KW.out hb)
      have nKN_ := Aside0.mk (blk_below KN.out hb)
      have nQL_ := Aside0.mk (Kd.C_below QL.out hb)
      have nHBA_ := Aside0.mk (below_step HBA.out hb)
      have nKALL_ := Aside0.mk (blk_below KALL.out hb)
      have nHBF_ := Aside0.mk (below_step HBF.out hb)
      have nKFALL_ := Aside0.mk (blk_below KFALL.out hb)
      have nQP_ := Aside0.mk (Kd.C_below QP.out hb)
      have nQU_ := Aside0.mk (Kd.C_below QU.out hb)
      have nKD_ := Aside0.mk (blk_below KD.out hb)
      have nHBW_ := Aside0.mk (below_step HBW.out hb)
      clear KA KR HB HT KT QW KW KN QL HBA KALL HBF KFALL QP QU KD HBW
      have KA := nKA_; have KR := nKR_; have HB := nHB_; have HT := nHT_; have KT := nKT_; have QW := nQW_; have KW := nKW_; have KN := nKN_; have QL := nQL_; have HBA := nHBA_; have KALL := nKALL_; have HBF := nHBF_; have KFALL := nKFALL_; have QP := nQP_; have QU := nQU_; have KD := nKD_; have HBW := nHBW_
      clear nKA_ nKR_ nHB_ nHT_ nKT_ nQW_ nKW_ nKN_ nQL_ nHBA_ nKALL_ nHBF_ nKFALL_ nQP_ nQU_ nKD_ nHBW_
      clear hb; have QZ := hQZ; clear hQZ
      clear qKFALL0 qKN0
      gi_wp2_with fail
      have HBZ := Aside0.mk (Below.refl w9.heap.size w9)
      refine wpIn_loop (fun a W => ∃ (j : Nat) (y157 y158 y159 y160 y161 y162 y163 y164 y165 y166 y167 y168 y169 y170 y171 y172 y173 y174 y175 y176 y177 y178 y179 : Value), a = { tmps := #[.agg #[.int .i64 n0, .slice A0 l0.length c0], .int .i64 el, .int .i64 stop, .pointer (some ⟨w.heap.size, 0, none⟩), undef, undef, .pointer (some ⟨w.heap.size + 1, 0, none⟩), .pointer (some ⟨w1.heap.size, 0, none⟩), .pointer (some ⟨w2.heap.size, 0, none⟩), .pointer (some ⟨w2.heap.size + 1, 0, none⟩), .slice AL xs.length cL, .pointer (some ⟨w5.heap.size, 0, none⟩), .pointer (some ⟨w6.heap.size, 0, none⟩), .slice AP (min stop.toNat xs.length) cP, .bool true, .slice AU xs.length cU, .bool true, .pointer (some ⟨w8.heap.size, 0, none⟩), undef, undef, undef, undef, undef, .int .i64 stop, .slice AZ xs.length cZ, .bool true, .int .i64 j, .agg #[.int .i64 n0, .slice A0 l0.length c0], .agg #[.int .i64 n0, .slice (some ⟨gT, 0, none⟩) l0.length capT], .agg #[.int .i64 n0, .slice A0 l0.length c0], .slice AW xs.length cW, .slice AW xs.length cW, .int .i64 xs.length, .agg #[.int .i64 n0, .slice (some ⟨gT, 0, none⟩) l0.length capT], .slice AL xs.length cL, .agg #[.int .i64 n0, .slice (some ⟨gT, 0, none⟩) l0.length capT], .int .i64 el, .bool bh, .agg #[.int .i64 n0, .slice A0 l0.length c0], .int .i64 el, .bool bh, .bool false, .bool false, .agg #[.int .i64 n0, .slice (some ⟨gT, 0, none⟩) l0.length capT], .int .i64 xs.length, .int .i64 xs.length, .bool false, .bool false, .bool false, .slice AL xs.length cL, .slice AW xs.length cW, .bool true, .bool false, .bool false, .agg #[.int .i64 n0, .slice (some ⟨gT, 0, none⟩) l0.length capT], .func (.func 82) #[] lbA, .agg #[.int .i64 n0, .slice (some ⟨gT, 0, none⟩) l0.length capT], .func (.func 83) #[] lbF, .func (.func 82) #[] lbA, .bool false, .bool false, .func (.func 83) #[] lbF, .bool false, .bool false, .bool false, .int .i64 stop, .bool false, .bool false, undef, undef, undef, undef, undef, undef, .tuple #[.slice AP (min stop.toNat xs.length) cP, .bool true], .func (.func 82) #[] lbA, .int .i64 stop, .tuple #[.slice AP (min stop.toNat xs.length) cP, .bool true], .slice AP (min stop.toNat xs.length) cP, .bool true, .tuple #[.slice AU xs.length cU, .bool true], .func (.func 82) #[] lbA, .int .i64 xs.length, .int .i64 (xs.length + 9), .tuple #[.slice AU xs.length cU, .bool true], .slice AU xs.length cU, .bool true, .func (.func 82) #[] lbA, undef, undef, undef, undef, undef, undef, undef, undef, undef, undef, undef, undef, undef, undef, undef, undef, undef, undef, undef, undef, undef, undef, undef, undef, undef, undef, undef, undef, undef, undef, undef, undef, undef, undef, undef, undef, undef, undef, undef, undef, undef, undef, undef, undef, undef, undef, undef, undef, undef, undef, undef, undef, undef, undef, undef, undef, undef, .int .i64 xs.length, .int .i64 stop, .int .i64 xs.length, .bool true, .int .i64 stop, .tuple #[.slice AZ xs.length cZ, .bool true], .func (.func 83) #[] lbF, .int .i64 xs.length, .int .i64 (xs.length + 9), .tuple #[.slice AZ xs.length cZ, .bool true], .slice AZ xs.length cZ, .bool true, y157, y158, y159, y160, y161, y162, y163, y164, y165, y166, y167, y168, y169, y170, y171, y172, y173, y174, y175, y176, y177, y178, y179, undef, undef, undef, undef, undef, undef, undef, undef, undef, undef, undef, undef, undef, undef, undef, undef, undef, undef, undef, undef, undef], defers := [{ target := .collected D, args := #[] }] } ∧ Aside0 (j ≤ xs.length) ∧ Aside0 (Below w9.heap.size w9 W))
        (fun a _ => xs.length - (intOf (a.tmps.getD 26 undef)).toNat) ?start ?round
      case start => exact ⟨0, undef, undef, undef, undef, undef, undef, undef, undef, undef, undef, undef, undef, undef, undef, undef, undef, undef, undef, undef, undef, undef, undef, undef, rfl, ⟨Nat.zero_le _⟩, HBZ⟩
      case round =>
        rintro a W2 ⟨j, y157, y158, y159, y160, y161, y162, y163, y164, y165, y166, y167, y168, y169, y170, y171, y172, y173, y174, y175, y176, y177, y178, y179, rfl, hj, HZ⟩
        clear HBZ
        have hb := HZ.out
        have nKA_ := Aside0.mk (blk_below KA.out hb)
        have nKR_ := Aside0.mk (blk_below KR.out hb)
        have nHB_ := Aside0.mk (below_step HB.out hb)
        have nHT_ := Aside0.mk (Kd.R_below HT.out hb)
        have nKT_ := Aside0.mk (blk_below KT.out hb)
        have nQW_ := Aside0.mk (Kd.C_below QW.out hb)
        have nKW_ := Aside0.mk (blk_below KW.out hb)
        have nKN_ := Aside0.mk (blk_below KN.out hb)
        have nQL_ := Aside0.mk (Kd.C_below QL.out hb)
        have nHBA_ := Aside0.mk (below_step HBA.out hb)
        have nKALL_ := Aside0.mk (blk_below KALL.out hb)
        have nHBF_ := Aside0.mk (below_step HBF.out hb)
        have nKFALL_ := Aside0.mk (blk_below KFALL.out hb)
        have nQP_ := Aside0.mk (Kd.C_below QP.out hb)
        have nQU_ := Aside0.mk (Kd.C_below QU.out hb)
        have nKD_ := Aside0.mk (blk_below KD.out hb)
        have nHBW_ := Aside0.mk (below_step HBW.out hb)
        have nQZ_ := Aside0.mk (Kd.C_below QZ.out hb)
        clear KA KR HB HT KT QW KW KN QL HBA KALL HBF KFALL QP QU KD HBW QZ
        have KA := nKA_; have KR := nKR_; have HB := nHB_; have HT := nHT_; have KT := nKT_; have QW := nQW_; have KW := nKW_; have KN := nKN_; have QL := nQL_; have HBA := nHBA_; have KALL := nKALL_; have HBF := nHBF_; have KFALL := nKFALL_; have QP := nQP_; have QU := nQU_; have KD := nKD_; have HBW := nHBW_; have QZ := nQZ_
        clear nKA_ nKR_ nHB_ nHT_ nKT_ nQW_ nKW_ nKN_ nQL_ nHBA_ nKALL_ nHBF_ nKFALL_ nQP_ nQU_ nKD_ nHBW_ nQZ_
        clear hb; have HB2 := HZ; clear HZ
        by_cases hlt : j < xs.length
        · have hpl2 : j ≤ 4096 := by omega
          have hd : decide ((j : Int) < (xs.length : Int)) = true := decide_eq_true (by omega)
          have hd2 : decide ((xs.length : Int) ≤ (j : Int)) = false := decide_eq_false (by omega)
          have hd3 : decide (xs.length ≤ j) = false := decide_eq_false (by omega)
          have hd4 : ¬ xs.length ≤ j := by omega
          have hx0 : (0 : Int) ≤ (xs.length : Int) - 1 - (j : Int) := by omega
          have hx1 : (xs.length : Int) - 1 - (j : Int) < (xs.length : Int) := by omega
          have hx2 := wrap_in (show -9223372036854775808 ≤ (xs.length : Int) - 1 by omega) (by omega)
          have hx3 := wrap_in (show -9223372036854775808 ≤ (xs.length : Int) - 1 - (j : Int) by omega) (by omega)
          have hx6 : ¬ ((xs.length : Int) - 1 < (j : Int)) := by omega
          have hx7 : (j : Int) ≤ (xs.length : Int) - 1 := by omega
          have hx4 : (j : Int) < (xs.length : Int) := by omega
          have hx5 : (0 : Int) ≤ (j : Int) := by omega
          obtain ⟨adW, eW, qW⟩ := Kd.at_int QW.out ((xs.length : Int) - 1 - (j : Int)) (by omega) (by omega)
          subst eW
          obtain ⟨adD, eD, qD⟩ := Kd.at_int QZ.out (j : Int) (by omega) (by omega)
          subst eD
          rw [rev_at2 hlt, Int.toNat_natCast] at qD
          rw [show ((xs.length : Int) - 1 - (j : Int)).toNat = xs.length - 1 - j by omega] at qW
          obtain ⟨v, hv⟩ : ∃ v, rd xs ((xs.length : Int) - 1 - (j : Int)) = v := ⟨_, rfl⟩
          rw [hv] at qW qD; clear hv
          have qKN0 := (blk_cell KN.out 0).trans rfl
          have qKW0 := (blk_cell KW.out 0).trans rfl
          gi_wp2_with fail
          refine wpIn_wide.2 ?_
          go_region_held3 (fun w' => w'.cell? ⟨w2.heap.size + 1, 0, none⟩ = some (.int .i64 xs.length) ∧ w'.cell? ⟨w2.heap.size, 0, none⟩ = some (.slice (some adW) xs.length cW) ∧ w'.cell? (adW.add (xs.length - 1 - j)) = some (.int .i64 v) ∧ w'.cell? (adD.add j) = some (.int .i64 v))
            (exact ⟨qKN0, qKW0, qW, qD⟩)
            (fail)
          gi_wp2_with fail
          exact ⟨⟨j + 1, _, _, _, _, _, _, _, _, _, _, _, _, _, _, _, _, _, _, _, _, _, _, _, rfl, ⟨hlt⟩, ⟨below_drew1 HB2.out⟩⟩, el_measure hlt⟩
        · have hje : j = xs.length := by have := hj.out; omega
          subst hje
          have hd : decide ((xs.length : Int) < (xs.length : Int)) = false := decide_eq_false (by omega)
          have qKW0 := (blk_cell KW.out 0).trans rfl
          gi_wp2_with fail
          refine ⟨trivial, ?_⟩; gi_at_call 38
          refine (callsIn_wide.2 (same_at kS _ _ xs _ _ xs xs.length xs.length _ rfl rfl QU.out lQU.out QW.out lW.out HSm.out)).mono ?_
          rintro e w10 ⟨rfl, hb⟩
          clear qKW0
          have nKA_ := Aside0.mk (blk_below KA.out hb)
          have nKR_ := Aside0.mk (blk_below KR.out hb)
          have nHB_ := Aside0.mk (below_step HB.out hb)
          have nHT_ := Aside0.mk (Kd.R_below HT.out hb)
          have nKT_ := Aside0.mk (blk_below KT.out hb)
          have nQW_ := Aside0.mk (Kd.C_below QW.out hb)
          have nKW_ := Aside0.mk (blk_below KW.out hb)
          have nKN_ := Aside0.mk (blk_below KN.out hb)
          have nQL_ := Aside0.mk (Kd.C_below QL.out hb)
          have nHBA_ := Aside0.mk (below_step HBA.out hb)
          have nKALL_ := Aside0.mk (blk_below KALL.out hb)
          have nHBF_ := Aside0.mk (below_step HBF.out hb)
          have nKFALL_ := Aside0.mk (blk_below KFALL.out hb)
          have nQP_ := Aside0.mk (Kd.C_below QP.out hb)
          have nQU_ := Aside0.mk (Kd.C_below QU.out hb)
          have nKD_ := Aside0.mk (blk_below KD.out hb)
          have nHBW_ := Aside0.mk (below_step HBW.out hb)
          have nQZ_ := Aside0.mk (Kd.C_below QZ.out hb)
          clear KA KR HB HT KT QW KW KN QL HBA KALL HBF KFALL QP QU KD HBW QZ
          have KA := nKA_; have KR := nKR_; have HB := nHB_; have HT := nHT_; have KT := nKT_; have QW := nQW_; have KW := nKW_; have KN := nKN_; have QL := nQL_; have HBA := nHBA_; have KALL := nKALL_; have HBF := nHBF_; have KFALL := nKFALL_; have QP := nQP_; have QU := nQU_; have KD := nKD_; have HBW := nHBW_; have QZ := nQZ_
          clear nKA_ nKR_ nHB_ nHT_ nKT_ nQW_ nKW_ nKN_ nQL_ nHBA_ nKALL_ nHBF_ nKFALL_ nQP_ nQU_ nKD_ nHBW_ nQZ_
          clear hb
          have qKW0 := (blk_cell KW.out 0).trans rfl
          have hst0 : 0 ≤ stop := by omega
          have hlW := lW.out
          have hsc : stop ≤ (cW : Int) := by omega
          gi_wp2_with fail
          refine ⟨trivial, ?_⟩; gi_at_call 38
          refine (callsIn_wide.2 (same_at kS2 _ _ (xs.take stop.toNat) _ _ (xs.take stop.toNat) (min stop.toNat xs.length) stop.toNat _ List.length_take (by rw [List.length_take]; omega) QP.out lQP.out (Kd.C_take QW.out (by omega)) (by rw [List.length_take]; omega) HS2.out)).mono ?_
          rintro e w11 ⟨rfl, hb⟩
          clear qKW0
          have nKA_ := Aside0.mk (blk_below KA.out hb)
          have nKR_ := Aside0.mk (blk_below KR.out hb)
          have nHB_ := Aside0.mk (below_step HB.out hb)
          have nHT_ := Aside0.mk (Kd.R_below HT.out hb)
          have nKT_ := Aside0.mk (blk_below KT.out hb)
          have nQW_ := Aside0.mk (Kd.C_below QW.out hb)
          have nKW_ := Aside0.mk (blk_below KW.out hb)
          have nKN_ := Aside0.mk (blk_below KN.out hb)
          have nQL_ := Aside0.mk (Kd.C_below QL.out hb)
          have nHBA_ := Aside0.mk (below_step HBA.out hb)
          have nKALL_ := Aside0.mk (blk_below KALL.out hb)
          have nHBF_ := Aside0.mk (below_step HBF.out hb)
          have nKFALL_ := Aside0.mk (blk_below KFALL.out hb)
          have nQP_ := Aside0.mk (Kd.C_below QP.out hb)
          have nQU_ := Aside0.mk (Kd.C_below QU.out hb)
          have nKD_ := Aside0.mk (blk_below KD.out hb)
          have nHBW_ := Aside0.mk (below_step HBW.out hb)
          have nQZ_ := Aside0.mk (Kd.C_below QZ.out hb)
          clear KA KR HB HT KT QW KW KN QL HBA KALL HBF KFALL QP QU KD HBW QZ
          have KA := nKA_; have KR := nKR_; have HB := nHB_; have HT := nHT_; have KT := nKT_; have QW := nQW_; have KW := nKW_; have KN := nKN_; have QL := nQL_; have HBA := nHBA_; have KALL := nKALL_; have HBF := nHBF_; have KFALL := nKFALL_; have QP := nQP_; have QU := nQU_; have KD := nKD_; have HBW := nHBW_; have QZ := nQZ_
          clear nKA_ nKR_ nHB_ nHT_ nKT_ nQW_ nKW_ nKN_ nQL_ nHBA_ nKALL_ nHBF_ nKFALL_ nQP_ nQU_ nKD_ nHBW_ nQZ_
          clear hb
          have qKN0 := (blk_cell KN.out 0).trans rfl
          have qKT0 := (blk_cell KT.out 0).trans rfl; have qKT1 := (blk_cell KT.out 1).trans rfl
          have qKA0 := (blk_cell KA.out 0).trans rfl; have qKA1 := (blk_cell KA.out 1).trans rfl
          gi_wp2_with fail
          refine ⟨trivial, ?_⟩; gi_at_call 22
          refine (callsIn_wide.2 (kept_marked n0 gT capT l0 A0 c0 _ (Kd.R_reads' HT.out).2.2 (Kd.R_reads' HT.out).2.1 (Kd.C_below HC.out HB.out) hc0)).mono ?_
          rintro e w12 ⟨rfl, hb⟩
          clear qKN0
          clear qKA0 qKA1 qKT0 qKT1
          have nKA_ := Aside0.mk (blk_below KA.out hb)
          have nKR_ := Aside0.mk (blk_below KR.out hb)
          have nHB_ := Aside0.mk (below_step HB.out hb)
          have nKT_ := Aside0.mk (blk_below KT.out hb)
          have nQW_ := Aside0.mk (Kd.C_below QW.out hb)
          have nKW_ := Aside0.mk (blk_below KW.out hb)
          have nKN_ := Aside0.mk (blk_below KN.out hb)
          have nQL_ := Aside0.mk (Kd.C_below QL.out hb)
          have nHBA_ := Aside0.mk (below_step HBA.out hb)
          have nKALL_ := Aside0.mk (blk_below KALL.out hb)
          have nHBF_ := Aside0.mk (below_step HBF.out hb)
          have nKFALL_ := Aside0.mk (blk_below KFALL.out hb)
          have nQP_ := Aside0.mk (Kd.C_below QP.out hb)
          have nQU_ := Aside0.mk (Kd.C_below QU.out hb)
          have nKD_ := Aside0.mk (blk_below KD.out hb)
          have nHBW_ := Aside0.mk (below_step HBW.out hb)
          have nQZ_ := Aside0.mk (Kd.C_below QZ.out hb)
          clear KA KR HB KT QW KW KN QL HBA KALL HBF KFALL QP QU KD HBW QZ HT
          have KA := nKA_; have KR := nKR_; have HB := nHB_; have KT := nKT_; have QW := nQW_; have KW := nKW_; have KN := nKN_; have QL := nQL_; have HBA := nHBA_; have KALL := nKALL_; have HBF := nHBF_; have KFALL := nKFALL_; have QP := nQP_; have QU := nQU_; have KD := nKD_; have HBW := nHBW_; have QZ := nQZ_
          clear nKA_ nKR_ nHB_ nKT_ nQW_ nKW_ nKN_ nQL_ nHBA_ nKALL_ nHBF_ nKFALL_ nQP_ nQU_ nKD_ nHBW_ nQZ_
          clear hb
          have qKR0 := (blk_cell KR.out 0).trans rfl
          have zR := blk_frozen KR.out 0
          gi_wp2_with fail
          obtain ⟨X, hX⟩ : ∃ X, w12.setCell ⟨w.heap.size + 1, 0, none⟩ (Value.bool true) = X := ⟨_, rfl⟩
          have hXD : X.heap[D]? = some (.deferred (some [])) := hX ▸ (KeepsOthers.setCell w12 ⟨w.heap.size + 1, 0, none⟩ (Value.bool true)).same D _ KD.out rfl
          have hXg : X.heap[w.heap.size + 1]? = some (.cells #[.bool true] 4 (0, 0)) := hX ▸ blk_put KR.out 0 (Value.bool true) rfl
          have hXB : Below w.heap.size w X := hX ▸ below_set HB.out (Nat.le_succ _)
          rw [hX]
          have hwD : w.heap.size ≤ D := by have := HW0.out; rw [hsk] at hD; omega
          clear hX
          refine ⟨by simp, .inl ⟨_, _, rfl, run_takeDeferred hXD, ?_⟩⟩
          have hg := grownBy_putObj' X D (.deferred none)
          have hr : ∀ r, some D = some r → w.heap.size ≤ r ∧ ∃ o : Obj, X.heap[r]? = some o ∧ o.isCells = false := by
            rintro r e; cases e; exact ⟨hwD, _, hXD, rfl⟩
          have c0_ := (blk_cell (blk_abide hXg hg hr) 0).trans rfl
          refine ⟨.bool true, ?_, rfl, hXB.grown hg (below_size hXB) (fun k e => (hr k e).1)⟩
          simp [results, Tryd.f6, go_sem, c0_]
    · have hs4 : decide (stop < (xs.length : Int)) = false := decide_eq_false hsn
      have qKFALL0 := (blk_cell KFALL.out 0).trans rfl
      have qKN0 := (blk_cell KN.out 0).trans rfl
      gi_wp2_with fail
      refine ⟨trivial, ?_⟩; gi_at_call 41
      refine ((callsIn_wide.2 (heard_at KIF 83 lbF xs.reverse xs.reverse ((xs.length : Int) + 9) xs.length _ (Iter.later IF.out HBF.out) (fun k hk => Nat.lt_of_lt_of_le (lIF.out k hk) (below_size HBF.out)) (enters_of Tryd.func83 (by kernel_rfl) rfl) (by rw [List.length_reverse]; exact hxl) (List.take_of_length_le (by rw [List.length_reverse]; omega)) (List.length_reverse)))).mono ?_
      rintro e w9 ⟨AZ, cZ, rfl, mQZ, lQZ_, hb⟩
      have lQZ := Aside0.mk lQZ_; have hQZ := Aside0.mk mQZ; clear lQZ_ mQZ
      have nKA_ := Aside0.mk (blk_below KA.out hb)
      have nKR_ := Aside0.mk (blk_below KR.out hb)
      have nHB_ := Aside0.mk (below_step HB.out hb)
      have nHT_ := Aside0.mk (Kd.R_below HT.out hb)
      have nKT_ := Aside0.mk (blk_below KT.out hb)
      have nQW_ := Aside0.mk (Kd.C_below QW.out hb)
      have nKW_ := Aside0.mk (blk_below KW.out hb)
      have nKN_ := Aside0.mk (blk_below KN.out hb)
      have nQL_ := Aside0.mk (Kd.C_below QL.out hb)
      have nHBA_ := Aside0.mk (below_step HBA.out hb)
      have nKALL_ := Aside0.mk (blk_below KALL.out hb)
      have nHBF_ := Aside0.mk (below_step HBF.out hb)
      have nKFALL_ := Aside0.mk (blk_below KFALL.out hb)
      have nQP_ := Aside0.mk (Kd.C_below QP.out hb)
      have nQU_ := Aside0.mk (Kd.C_below QU.out hb)
      have nKD_ := Aside0.mk (blk_below KD.out hb)
      have nHBW_ := Aside0.mk (below_step HBW.out hb)
      clear KA KR HB HT KT QW KW KN QL HBA KALL HBF KFALL QP QU KD HBW
      have KA := nKA_; have KR := nKR_; have HB := nHB_; have HT := nHT_; have KT := nKT_; have QW := nQW_; have KW := nKW_; have KN := nKN_; have QL := nQL_; have HBA := nHBA_; have KALL := nKALL_; have HBF := nHBF_; have KFALL := nKFALL_; have QP := nQP_; have QU := nQU_; have KD := nKD_; have HBW := nHBW_
      clear nKA_ nKR_ nHB_ nHT_ nKT_ nQW_ nKW_ nKN_ nQL_ nHBA_ nKALL_ nHBF_ nKFALL_ nQP_ nQU_ nKD_ nHBW_
      clear hb; have QZ := hQZ; clear hQZ
      clear qKFALL0 qKN0
      gi_wp2_with fail
      have HBZ := Aside0.mk (Below.refl w9.heap.size w9)
      refine wpIn_loop (fun a W => ∃ (j : Nat) (y157 y158 y159 y160 y161 y162 y163 y164 y165 y166 y167 y168 y169 y170 y171 y172 y173 y174 y175 y176 y177 y178 y179 : Value), a = { tmps := #[.agg #[.int .i64 n0, .slice A0 l0.length c0], .int .i64 el, .int .i64 stop, .pointer (some ⟨w.heap.size, 0, none⟩), undef, undef, .pointer (some ⟨w.heap.size + 1, 0, none⟩), .pointer (some ⟨w1.heap.size, 0, none⟩), .pointer (some ⟨w2.heap.size, 0, none⟩), .pointer (some ⟨w2.heap.size + 1, 0, none⟩), .slice AL xs.length cL, .pointer (some ⟨w5.heap.size, 0, none⟩), .pointer (some ⟨w6.heap.size, 0, none⟩), .slice AP xs.length cP, .bool true, .slice AU xs.length cU, .bool true, .pointer (some ⟨w8.heap.size, 0, none⟩), undef, undef, undef, undef, undef, .int .i64 xs.length, .slice AZ xs.length cZ, .bool true, .int .i64 j, .agg #[.int .i64 n0, .slice A0 l0.length c0], .agg #[.int .i64 n0, .slice (some ⟨gT, 0, none⟩) l0.length capT], .agg #[.int .i64 n0, .slice A0 l0.length c0], .slice AW xs.length cW, .slice AW xs.length cW, .int .i64 xs.length, .agg #[.int .i64 n0, .slice (some ⟨gT, 0, none⟩) l0.length capT], .slice AL xs.length cL, .agg #[.int .i64 n0, .slice (some ⟨gT, 0, none⟩) l0.length capT], .int .i64 el, .bool bh, .agg #[.int .i64 n0, .slice A0 l0.length c0], .int .i64 el, .bool bh, .bool false, .bool false, .agg #[.int .i64 n0, .slice (some ⟨gT, 0, none⟩) l0.length capT], .int .i64 xs.length, .int .i64 xs.length, .bool false, .bool false, .bool false, .slice AL xs.length cL, .slice AW xs.length cW, .bool true, .bool false, .bool false, .agg #[.int .i64 n0, .slice (some ⟨gT, 0, none⟩) l0.length capT], .func (.func 82) #[] lbA, .agg #[.int .i64 n0, .slice (some ⟨gT, 0, none⟩) l0.length capT], .func (.func 83) #[] lbF, .func (.func 82) #[] lbA, .bool false, .bool false, .func (.func 83) #[] lbF, .bool false, .bool false, .bool false, .int .i64 stop, .bool false, .bool false, undef, undef, undef, undef, undef, undef, .tuple #[.slice AP xs.length cP, .bool true], .func (.func 82) #[] lbA, .int .i64 stop, .tuple #[.slice AP xs.length cP, .bool true], .slice AP xs.length cP, .bool true, .tuple #[.slice AU xs.length cU, .bool true], .func (.func 82) #[] lbA, .int .i64 xs.length, .int .i64 (xs.length + 9), .tuple #[.slice AU xs.length cU, .bool true], .slice AU xs.length cU, .bool true, .func (.func 82) #[] lbA, undef, undef, undef, undef, undef, undef, undef, undef, undef, undef, undef, undef, undef, undef, undef, undef, undef, undef, undef, undef, undef, undef, undef, undef, undef, undef, undef, undef, undef, undef, undef, undef, undef, undef, undef, undef, undef, undef, undef, undef, undef, undef, undef, undef, undef, undef, undef, undef, undef, undef, undef, undef, undef, undef, undef, undef, undef, .int .i64 xs.length, .int .i64 stop, .int .i64 xs.length, .bool false, undef, .tuple #[.slice AZ xs.length cZ, .bool true], .func (.func 83) #[] lbF, .int .i64 xs.length, .int .i64 (xs.length + 9), .tuple #[.slice AZ xs.length cZ, .bool true], .slice AZ xs.length cZ, .bool true, y157, y158, y159, y160, y161, y162, y163, y164, y165, y166, y167, y168, y169, y170, y171, y172, y173, y174, y175, y176, y177, y178, y179, undef, undef, undef, undef, undef, undef, undef, undef, undef, undef, undef, undef, undef, undef, undef, undef, undef, undef, undef, undef, undef], defers := [{ target := .collected D, args := #[] }] } ∧ Aside0 (j ≤ xs.length) ∧ Aside0 (Below w9.heap.size w9 W))
        (fun a _ => xs.length - (intOf (a.tmps.getD 26 undef)).toNat) ?start ?round
      case start => exact ⟨0, undef, undef, undef, undef, undef, undef, undef, undef, undef, undef, undef, undef, undef, undef, undef, undef, undef, undef, undef, undef, undef, undef, undef, rfl, ⟨Nat.zero_le _⟩, HBZ⟩
      case round =>
        rintro a W2 ⟨j, y157, y158, y159, y160, y161, y162, y163, y164, y165, y166, y167, y168, y169, y170, y171, y172, y173, y174, y175, y176, y177, y178, y179, rfl, hj, HZ⟩
        clear HBZ
        have hb := HZ.out
        have nKA_ := Aside0.mk (blk_below KA.out hb)
        have nKR_ := Aside0.mk (blk_below KR.out hb)
        have nHB_ := Aside0.mk (below_step HB.out hb)
        have nHT_ := Aside0.mk (Kd.R_below HT.out hb)
        have nKT_ := Aside0.mk (blk_below KT.out hb)
        have nQW_ := Aside0.mk (Kd.C_below QW.out hb)
        have nKW_ := Aside0.mk (blk_below KW.out hb)
        have nKN_ := Aside0.mk (blk_below KN.out hb)
        have nQL_ := Aside0.mk (Kd.C_below QL.out hb)
        have nHBA_ := Aside0.mk (below_step HBA.out hb)
        have nKALL_ := Aside0.mk (blk_below KALL.out hb)
        have nHBF_ := Aside0.mk (below_step HBF.out hb)
        have nKFALL_ := Aside0.mk (blk_below KFALL.out hb)
        have nQP_ := Aside0.mk (Kd.C_below QP.out hb)
        have nQU_ := Aside0.mk (Kd.C_below QU.out hb)
        have nKD_ := Aside0.mk (blk_below KD.out hb)
        have nHBW_ := Aside0.mk (below_step HBW.out hb)
        have nQZ_ := Aside0.mk (Kd.C_below QZ.out hb)
        clear KA KR HB HT KT QW KW KN QL HBA KALL HBF KFALL QP QU KD HBW QZ
        have KA := nKA_; have KR := nKR_; have HB := nHB_; have HT := nHT_; have KT := nKT_; have QW := nQW_; have KW := nKW_; have KN := nKN_; have QL := nQL_; have HBA := nHBA_; have KALL := nKALL_; have HBF := nHBF_; have KFALL := nKFALL_; have QP := nQP_; have QU := nQU_; have KD := nKD_; have HBW := nHBW_; have QZ := nQZ_
        clear nKA_ nKR_ nHB_ nHT_ nKT_ nQW_ nKW_ nKN_ nQL_ nHBA_ nKALL_ nHBF_ nKFALL_ nQP_ nQU_ nKD_ nHBW_ nQZ_
        clear hb; have HB2 := HZ; clear HZ
        by_cases hlt : j < xs.length
        · have hpl2 : j ≤ 4096 := by omega
          have hd : decide ((j : Int) < (xs.length : Int)) = true := decide_eq_true (by omega)
          have hd2 : decide ((xs.length : Int) ≤ (j : Int)) = false := decide_eq_false (by omega)
          have hd3 : decide (xs.length ≤ j) = false := decide_eq_false (by omega)
          have hd4 : ¬ xs.length ≤ j := by omega
          have hx0 : (0 : Int) ≤ (xs.length : Int) - 1 - (j : Int) := by omega
          have hx1 : (xs.length : Int) - 1 - (j : Int) < (xs.length : Int) := by omega
          have hx2 := wrap_in (show -9223372036854775808 ≤ (xs.length : Int) - 1 by omega) (by omega)
          have hx3 := wrap_in (show -9223372036854775808 ≤ (xs.length : Int) - 1 - (j : Int) by omega) (by omega)
          have hx6 : ¬ ((xs.length : Int) - 1 < (j : Int)) := by omega
          have hx7 : (j : Int) ≤ (xs.length : Int) - 1 := by omega
          have hx4 : (j : Int) < (xs.length : Int) := by omega
          have hx5 : (0 : Int) ≤ (j : Int) := by omega
          obtain ⟨adW, eW, qW⟩ := Kd.at_int QW.out ((xs.length : Int) - 1 - (j : Int)) (by omega) (by omega)
          subst eW
          obtain ⟨adD, eD, qD⟩ := Kd.at_int QZ.out (j : Int) (by omega) (by omega)
          subst eD
          rw [rev_at2 hlt, Int.toNat_natCast] at qD
          rw [show ((xs.length : Int) - 1 - (j : Int)).toNat = xs.length - 1 - j by omega] at qW
          obtain ⟨v, hv⟩ : ∃ v, rd xs ((xs.length : Int) - 1 - (j : Int)) = v := ⟨_, rfl⟩
          rw [hv] at qW qD; clear hv
          have qKN0 := (blk_cell KN.out 0).trans rfl
          have qKW0 := (blk_cell KW.out 0).trans rfl
          gi_wp2_with fail
          refine wpIn_wide.2 ?_
          go_region_held3 (fun w' => w'.cell? ⟨w2.heap.size + 1, 0, none⟩ = some (.int .i64 xs.length) ∧ w'.cell? ⟨w2.heap.size, 0, none⟩ = some (.slice (some adW) xs.length cW) ∧ w'.cell? (adW.add (xs.length - 1 - j)) = some (.int .i64 v) ∧ w'.cell? (adD.add j) = some (.int .i64 v))
            (exact ⟨qKN0, qKW0, qW, qD⟩)
            (fail)
          gi_wp2_with fail
          exact ⟨⟨j + 1, _, _, _, _, _, _, _, _, _, _, _, _, _, _, _, _, _, _, _, _, _, _, _, rfl, ⟨hlt⟩, ⟨below_drew1 HB2.out⟩⟩, el_measure hlt⟩
        · have hje : j = xs.length := by have := hj.out; omega
          subst hje
          have hd : decide ((xs.length : Int) < (xs.length : Int)) = false := decide_eq_false (by omega)
          have qKW0 := (blk_cell KW.out 0).trans rfl
          gi_wp2_with fail
          refine ⟨trivial, ?_⟩; gi_at_call 38
          refine (callsIn_wide.2 (same_at kS _ _ xs _ _ xs xs.length xs.length _ rfl rfl QU.out lQU.out QW.out lW.out HSm.out)).mono ?_
          rintro e w10 ⟨rfl, hb⟩
          clear qKW0
          have nKA_ := Aside0.mk (blk_below KA.out hb)
          have nKR_ := Aside0.mk (blk_below KR.out hb)
          have nHB_ := Aside0.mk (below_step HB.out hb)
          have nHT_ := Aside0.mk (Kd.R_below HT.out hb)
          have nKT_ := Aside0.mk (blk_below KT.out hb)
          have nQW_ := Aside0.mk (Kd.C_below QW.out hb)
          have nKW_ := Aside0.mk (blk_below KW.out hb)
          have nKN_ := Aside0.mk (blk_below KN.out hb)
          have nQL_ := Aside0.mk (Kd.C_below QL.out hb)
          have nHBA_ := Aside0.mk (below_step HBA.out hb)
          have nKALL_ := Aside0.mk (blk_below KALL.out hb)
          have nHBF_ := Aside0.mk (below_step HBF.out hb)
          have nKFALL_ := Aside0.mk (blk_below KFALL.out hb)
          have nQP_ := Aside0.mk (Kd.C_below QP.out hb)
          have nQU_ := Aside0.mk (Kd.C_below QU.out hb)
          have nKD_ := Aside0.mk (blk_below KD.out hb)
          have nHBW_ := Aside0.mk (below_step HBW.out hb)
          have nQZ_ := Aside0.mk (Kd.C_below QZ.out hb)
          clear KA KR HB HT KT QW KW KN QL HBA KALL HBF KFALL QP QU KD HBW QZ
          have KA := nKA_; have KR := nKR_; have HB := nHB_; have HT := nHT_; have KT := nKT_; have QW := nQW_; have KW := nKW_; have KN := nKN_; have QL := nQL_; have HBA := nHBA_; have KALL := nKALL_; have HBF := nHBF_; have KFALL := nKFALL_; have QP := nQP_; have QU := nQU_; have KD := nKD_; have HBW := nHBW_; have QZ := nQZ_
          clear nKA_ nKR_ nHB_ nHT_ nKT_ nQW_ nKW_ nKN_ nQL_ nHBA_ nKALL_ nHBF_ nKFALL_ nQP_ nQU_ nKD_ nHBW_ nQZ_
          clear hb
          have qKW0 := (blk_cell KW.out 0).trans rfl
          have hst0 : 0 ≤ stop := by omega
          have hlW := lW.out
          have hsc : (xs.length : Int) ≤ (cW : Int) := by omega
          gi_wp2_with fail
          refine ⟨trivial, ?_⟩; gi_at_call 38
          refine (callsIn_wide.2 (same_at kS _ _ (xs.take stop.toNat) _ _ xs xs.length xs.length _ (by rw [List.length_take]; omega) rfl QP.out lQP.out QW.out lW.out (by rw [List.take_of_length_le (by omega)]; exact HSm.out))).mono ?_
          rintro e w11 ⟨rfl, hb⟩
          clear qKW0
          have nKA_ := Aside0.mk (blk_below KA.out hb)
          have nKR_ := Aside0.mk (blk_below KR.out hb)
          have nHB_ := Aside0.mk (below_step HB.out hb)
          have nHT_ := Aside0.mk (Kd.R_below HT.out hb)
          have nKT_ := Aside0.mk (blk_below KT.out hb)
          have nQW_ := Aside0.mk (Kd.C_below QW.out hb)
          have nKW_ := Aside0.mk (blk_below KW.out hb)
          have nKN_ := Aside0.mk (blk_below KN.out hb)
          have nQL_ := Aside0.mk (Kd.C_below QL.out hb)
          have nHBA_ := Aside0.mk (below_step HBA.out hb)
          have nKALL_ := Aside0.mk (blk_below KALL.out hb)
          have nHBF_ := Aside0.mk (below_step HBF.out hb)
          have nKFALL_ := Aside0.mk (blk_below KFALL.out hb)
          have nQP_ := Aside0.mk (Kd.C_below QP.out hb)
          have nQU_ := Aside0.mk (Kd.C_below QU.out hb)
          have nKD_ := Aside0.mk (blk_below KD.out hb)
          have nHBW_ := Aside0.mk (below_step HBW.out hb)
          have nQZ_ := Aside0.mk (Kd.C_below QZ.out hb)
          clear KA KR HB HT KT QW KW KN QL HBA KALL HBF KFALL QP QU KD HBW QZ
          have KA := nKA_; have KR := nKR_; have HB := nHB_; have HT := nHT_; have KT := nKT_; have QW := nQW_; have KW := nKW_; have KN := nKN_; have QL := nQL_; have HBA := nHBA_; have KALL := nKALL_; have HBF := nHBF_; have KFALL := nKFALL_; have QP := nQP_; have QU := nQU_; have KD := nKD_; have HBW := nHBW_; have QZ := nQZ_
          clear nKA_ nKR_ nHB_ nHT_ nKT_ nQW_ nKW_ nKN_ nQL_ nHBA_ nKALL_ nHBF_ nKFALL_ nQP_ nQU_ nKD_ nHBW_ nQZ_
          clear hb
          have qKN0 := (blk_cell KN.out 0).trans rfl
          have qKT0 := (blk_cell KT.out 0).trans rfl; have qKT1 := (blk_cell KT.out 1).trans rfl
          have qKA0 := (blk_cell KA.out 0).trans rfl; have qKA1 := (blk_cell KA.out 1).trans rfl
          gi_wp2_with fail
          refine ⟨trivial, ?_⟩; gi_at_call 22
          refine (callsIn_wide.2 (kept_marked n0 gT capT l0 A0 c0 _ (Kd.R_reads' HT.out).2.2 (Kd.R_reads' HT.out).2.1 (Kd.C_below HC.out HB.out) hc0)).mono ?_
          rintro e w12 ⟨rfl, hb⟩
          clear qKN0
          clear qKA0 qKA1 qKT0 qKT1
          have nKA_ := Aside0.mk (blk_below KA.out hb)
          have nKR_ := Aside0.mk (blk_below KR.out hb)
          have nHB_ := Aside0.mk (below_step HB.out hb)
          have nKT_ := Aside0.mk (blk_below KT.out hb)
          have nQW_ := Aside0.mk (Kd.C_below QW.out hb)
          have nKW_ := Aside0.mk (blk_below KW.out hb)
          have nKN_ := Aside0.mk (blk_below KN.out hb)
          have nQL_ := Aside0.mk (Kd.C_below QL.out hb)
          have nHBA_ := Aside0.mk (below_step HBA.out hb)
          have nKALL_ := Aside0.mk (blk_below KALL.out hb)
          have nHBF_ := Aside0.mk (below_step HBF.out hb)
          have nKFALL_ := Aside0.mk (blk_below KFALL.out hb)
          have nQP_ := Aside0.mk (Kd.C_below QP.out hb)
          have nQU_ := Aside0.mk (Kd.C_below QU.out hb)
          have nKD_ := Aside0.mk (blk_below KD.out hb)
          have nHBW_ := Aside0.mk (below_step HBW.out hb)
          have nQZ_ := Aside0.mk (Kd.C_below QZ.out hb)
          clear KA KR HB KT QW KW KN QL HBA KALL HBF KFALL QP QU KD HBW QZ HT
          have KA := nKA_; have KR := nKR_; have HB := nHB_; have KT := nKT_; have QW := nQW_; have KW := nKW_; have KN := nKN_; have QL := nQL_; have HBA := nHBA_; have KALL := nKALL_; have HBF := nHBF_; have KFALL := nKFALL_; have QP := nQP_; have QU := nQU_; have KD := nKD_; have HBW := nHBW_; have QZ := nQZ_
          clear nKA_ nKR_ nHB_ nKT_ nQW_ nKW_ nKN_ nQL_ nHBA_ nKALL_ nHBF_ nKFALL_ nQP_ nQU_ nKD_ nHBW_ nQZ_
          clear hb
          have qKR0 := (blk_cell KR.out 0).trans rfl
          have zR := blk_frozen KR.out 0
          gi_wp2_with fail
          obtain ⟨X, hX⟩ : ∃ X, w12.setCell ⟨w.heap.size + 1, 0, none⟩ (Value.bool true) = X := ⟨_, rfl⟩
          have hXD : X.heap[D]? = some (.deferred (some [])) := hX ▸ (KeepsOthers.setCell w12 ⟨w.heap.size + 1, 0, none⟩ (Value.bool true)).same D _ KD.out rfl
          have hXg : X.heap[w.heap.size + 1]? = some (.cells #[.bool true] 4 (0, 0)) := hX ▸ blk_put KR.out 0 (Value.bool true) rfl
          have hXB : Below w.heap.size w X := hX ▸ below_set HB.out (Nat.le_succ _)
          rw [hX]
          have hwD : w.heap.size ≤ D := by have := HW0.out; rw [hsk] at hD; omega
          clear hX
          refine ⟨by simp, .inl ⟨_, _, rfl, run_takeDeferred hXD, ?_⟩⟩
          have hg := grownBy_putObj' X D (.deferred none)
          have hr : ∀ r, some D = some r → w.heap.size ≤ r ∧ ∃ o : Obj, X.heap[r]? = some o ∧ o.isCells = false := by
            rintro r e; cases e; exact ⟨hwD, _, hXD, rfl⟩
          have c0_ := (blk_cell (blk_abide hXg hg hr) 0).trans rfl
          refine ⟨.bool true, ?_, rfl, hXB.grown hg (below_size hXB) (fun k e => (hr k e).1)⟩
          simp [results, Tryd.f6, go_sem, c0_]
end Go.Proofs.YtjmkhdhffmlhiaaDoor.PAll
end
section
namespace Go.Proofs.YtjmkhdhffmlhiaaDoor.PAll
set_option linter.unusedVariables false
open Go.RowKit Go.Proofs.YtjmkhdhffmlhiaaDoorW.PrintWords Go.Proofs.YtjmkhdhffmlhiaaDoorW.PrintLast Go.Proofs.YtjmkhdhffmlhiaaDoorW.PrintMore
theorem els_up {N : Nat} {ws : List Int} (h : MayP (N : Int) ws) : ∀ d, els (N + d) ws = els N ws
  | 0 => rfl
  | d + 1 => by
    rw [← Nat.add_assoc, els_succ, els_up h d, h.2.2.2 (N + d) (by rw [Int.toNat_natCast]; omega)]
    simp
theorem Elements_alike (n : Int) (ws : List Int) (el : Int) (hw : Wds ws) (hs : ws.length ≤ 9223372036854775807) : ∃ (k : Nat) (r : List Int) (bh : Bool),
    bitset_own.f n ws = some r ∧ Wds r ∧ r.length ≤ 64 ∧ sloperef3_Elements.f k n ws = some (els (64 * r.length) r) ∧ bitset_Has.f n ws el = some bh ∧ sloperef3_Has.f k n ws el = some bh ∧ bitset_Count.f k n ws = some ((els (64 * r.length) r).length : Int) := by
  obtain ⟨K1, x1⟩ := rMay_eq n ws hw hs
  dsimp only at x1
  by_cases h : MayP n ws
  · rw [may_true.2 h] at x1
    have hh := h
    obtain ⟨N, rfl⟩ := Int.eq_ofNat_of_zero_le h.1
    have hlen : ws.length = (N + 63) / 64 := by have := h.2.2.1; rwa [Int.toNat_natCast] at this
    have hN : N ≤ 4096 := by have := h.2.1; omega
    obtain ⟨K2, x2⟩ := rElements_eq hw h
    obtain ⟨K3, x3⟩ := Count_eq hw h
    dsimp only at x2 x3
    have e1 : els (64 * ws.length) ws = els N ws := by
      rw [show 64 * ws.length = N + (64 * ws.length - N) by omega]
      exact els_up h _
    have e2 : (els N ws).length = cnt ws := by rw [(els_says ws N).1, rk_all h]
    refine ⟨K1 + K2 + K3, ws, decide (0 ≤ el ∧ el < N) && hb ws el.toNat, own_eq h hw, hw, by omega, ?_, ?_, ?_, ?_⟩
    · rw [e1]; exact x2 _ (by omega)
    · by_cases h0 : 0 ≤ el
      · obtain ⟨e, rfl⟩ := Int.eq_ofNat_of_zero_le h0
        by_cases h1 : e < N
        · rw [Has_eq hw h h1, decide_eq_true (by omega), Bool.true_and, Int.toNat_natCast]
        · unfold bitset_Has.f bitset_within.f
          rw [May_eq _ ws hw hs, may_true.2 h, Option.bind_some, if_pos rfl, if_pos (by omega), Option.bind_some, decide_eq_false (by omega), if_neg (by simp), decide_eq_false (by omega), Bool.false_and]
      · unfold bitset_Has.f bitset_within.f
        rw [May_eq _ ws hw hs, may_true.2 h, Option.bind_some, if_pos rfl, if_neg (by omega), Option.bind_some, if_neg (by simp), decide_eq_false (by omega), Bool.false_and]
    · unfold sloperef3_Has.f
      rw [x1 _ (by omega), Option.bind_some, if_pos rfl]
      by_cases h0 : 0 ≤ el
      · obtain ⟨e, rfl⟩ := Int.eq_ofNat_of_zero_le h0
        rw [if_pos (by omega)]
        by_cases h1 : e < N
        · rw [if_pos (by omega), In_eq hw (by omega) (by omega), Option.bind_some, decide_eq_true (by omega), Bool.true_and, Int.toNat_natCast]
        · rw [if_neg (by omega), decide_eq_false (by omega), Bool.false_and]
      · rw [if_neg (by omega), decide_eq_false (by omega), Bool.false_and]
    · rw [e1, e2]; exact x3 _ (by omega)
  · rw [may_false.2 h] at x1
    have m1 : bitset_May.f n ws = some false := by rw [May_eq n ws hw hs, may_false.2 h]
    obtain ⟨K3, x3⟩ := Count_none hw hs h
    dsimp only at x3
    refine ⟨K1 + K3, [], false, ?_, fun x hx => by simp at hx, by simp, ?_, ?_, ?_, ?_⟩
    · unfold bitset_own.f; rw [m1, Option.bind_some, if_neg (by simp)]
    · unfold sloperef3_Elements.f; rw [x1 _ (by omega), Option.bind_some, if_neg (by simp)]; rfl
    · unfold bitset_Has.f; rw [m1, Option.bind_some, if_neg (by simp)]
    · unfold sloperef3_Has.f; rw [x1 _ (by omega), Option.bind_some, if_neg (by simp)]
    · exact x3 _ (by omega)
end Go.Proofs.YtjmkhdhffmlhiaaDoor.PAll
end
section
namespace Go.Proofs.YtjmkhdhffmlhiaaDoor.PAll
open Go.RowKit Go.Shelf Go.Proofs.YtjmkhdhffmlhiaaDoorW.PrintWords Go.Proofs.YtjmkhdhffmlhiaaDoorW.PrintLast Go.Proofs.YtjmkhdhffmlhiaaDoorW.PrintMore
theorem BitElements_calls (n0 : Int) (A0 : Option Addr) (c0 : Nat) (l0 : List Int) (el stop : Int) (w : World) (hr0 : Kd.C (Kd.int .u64) w A0 l0.length l0) (hc0 : l0.length ≤ c0) (hn0 : l0.length * 8 ≤ 140737488351232) (hw : Wds l0) (hG : Tz w) :
    Calls Tryd.prog 6 #[.agg #[.int .i64 n0, .slice A0 l0.length c0], .int .i64 el, .int .i64 stop] w fun e w' => e = .returned (.bool true) ∧ Below w.heap.size w w' := by
  obtain ⟨k, r, bh, h1, h2, h3, h4, h5, h6, h7⟩ := Elements_alike n0 l0 el hw (by omega)
  have hl := els_len r r.length
  obtain ⟨xs, hx⟩ : ∃ xs, els (64 * r.length) r = xs := ⟨_, rfl⟩
  rw [hx] at h4 h7 hl
  obtain ⟨kS, hS⟩ := same_ints xs (by omega)
  by_cases hst : stop < 0
  · exact BitElements_neg k k k kS n0 A0 c0 l0 el stop w hr0 hc0 hn0 hG r xs bh h1 h2 h3 hx h4 h5 h6 h7 hS hst
  · obtain ⟨kS2, hS2⟩ := same_ints (xs.take stop.toNat) (by rw [List.length_take]; omega)
    exact BitElements_pos k k k kS n0 A0 c0 l0 el stop w hr0 hc0 hn0 hG r xs bh h1 h2 h3 hx h4 h5 h6 h7 hS hst kS2 hS2
end Go.Proofs.YtjmkhdhffmlhiaaDoor.PAll
end
