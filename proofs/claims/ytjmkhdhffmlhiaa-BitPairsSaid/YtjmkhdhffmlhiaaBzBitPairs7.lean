import Derived.Test.YtjmkhdhffmlhiaaBzBitPairs6
import Derived.Test.YtjmkhdhffmlhiaaBzBitPairs4
import Derived.Test.YtjmkhdhffmlhiaaBzBitPairs2
import Derived.Test.YtjmkhdhffmlhiaaBzBitPairs3
import Derived.Test.YtjmkhdhffmlhiaaBzBitPairs5
section
namespace Go.Proofs.Ytjmkhdhffmlhiaa.PAll
set_option linter.unusedVariables false
open Go.RowKit Go.Proofs.YtjmkhdhffmlhiaaW.PrintWords Go.Proofs.YtjmkhdhffmlhiaaW.PrintMore
def Lt (n : Nat) (p q : Nat → Bool) : Prop := ∃ e, e < n ∧ p e = false ∧ q e = true ∧ ∀ d, e < d → d < n → p d = q d
theorem Lt.trans {n : Nat} {p q r : Nat → Bool} (h : Lt n p q) (k : Lt n q r) : Lt n p r := by
  obtain ⟨e, h1, h2, h3, h4⟩ := h
  obtain ⟨f, k1, k2, k3, k4⟩ := k
  rcases Nat.lt_trichotomy e f with hef | rfl | hef
  · exact ⟨f, k1, (h4 f hef k1).trans k2, k3, fun d h5 h6 => (h4 d (by omega) h6).trans (k4 d h5 h6)⟩
  · rw [h3] at k2; cases k2
  · exact ⟨e, h1, h2, (k4 e hef h1).symm.trans h3, fun d h5 h6 => (h4 d h5 h6).trans (k4 d (by omega) h6)⟩
theorem Lt.irrefl {n : Nat} {p : Nat → Bool} (h : Lt n p p) : False := by
  obtain ⟨e, h1, h2, h3, _⟩ := h
  rw [h2] at h3; cases h3
theorem Lt.congr {n : Nat} {p q p' q' : Nat → Bool} (h : Lt n p q) (hp : ∀ d, d < n → p d = p' d) (hq : ∀ d, d < n → q d = q' d) : Lt n p' q' := by
  obtain ⟨e, h1, h2, h3, h4⟩ := h
  exact ⟨e, h1, (hp e h1).symm.trans h2, (hq e h1).symm.trans h3, fun d h5 h6 => (hp d h6).symm.trans ((h4 d h5 h6).trans (hq d h6))⟩
def CmpSays (a : Int) (la : List Int) (b : Int) (lb : List Int) (r : Int) : Prop :=
  (¬ (MayP a la ∧ MayP b lb) ∧ r = 0) ∨ (MayP a la ∧ MayP b lb ∧ ((a < b ∧ r = -1) ∨ (b < a ∧ r = 1) ∨ (a = b ∧ ((r = 0 ∧ ∀ d, hb la d = hb lb d) ∨ (r = -1 ∧ Lt a.toNat (hb la) (hb lb)) ∨ (r = 1 ∧ Lt a.toNat (hb lb) (hb la))))))
theorem lt_bits {x y : Int} (hx : Wd x) (hy : Wd y) (hne : x ≠ y) : ∃ j, j < 64 ∧ tb x j ≠ tb y j ∧ (∀ i, j < i → tb x i = tb y i) := by
  have key : ∀ n : Nat, n ≤ 64 → (∀ i, n ≤ i → tb x i = tb y i) ∨ ∃ j, n ≤ j ∧ j < 64 ∧ tb x j ≠ tb y j ∧ (∀ i, j < i → tb x i = tb y i) := by
    intro n hn
    obtain ⟨d, hd⟩ : ∃ d, d = 64 - n := ⟨_, rfl⟩
    induction d generalizing n with
    | zero => exact .inl fun i hi => by rw [tb_high hx (by omega), tb_high hy (by omega)]
    | succ d ih =>
      rcases ih (n + 1) (by omega) (by omega) with h | ⟨j, h1, h2⟩
      · by_cases he : tb x n = tb y n
        · exact .inl fun i hi => by
            rcases Nat.eq_or_lt_of_le hi with rfl | h3
            · exact he
            · exact h i h3
        · exact .inr ⟨n, Nat.le_refl _, by omega, he, fun i hi => h i hi⟩
      · exact .inr ⟨j, by omega, h2⟩
  rcases key 0 (by omega) with h | ⟨j, _, h⟩
  · exact absurd (tb_ext hx hy fun j _ => h j (by omega)) hne
  · exact ⟨j, h⟩
theorem nat_lt_bits {x y j : Nat} (h1 : x.testBit j = false) (h2 : y.testBit j = true) (h3 : ∀ i, j < i → x.testBit i = y.testBit i) : x < y := by
  have e : x >>> (j + 1) = y >>> (j + 1) := Nat.eq_of_testBit_eq fun i => by rw [Nat.testBit_shiftRight, Nat.testBit_shiftRight]; exact h3 _ (by omega)
  rw [Nat.shiftRight_eq_div_pow, Nat.shiftRight_eq_div_pow, Nat.pow_succ, ← Nat.div_div_eq_div_mul, ← Nat.div_div_eq_div_mul] at e
  rw [Nat.testBit_eq_decide_div_mod_eq, decide_eq_false_iff_not] at h1
  rw [Nat.testBit_eq_decide_div_mod_eq, decide_eq_true_eq] at h2
  refine Classical.byContradiction fun hc => ?_
  have : y / 2 ^ j ≤ x / 2 ^ j := Nat.div_le_div_right (by omega)
  omega
theorem lt_word {x y : Int} (hx : Wd x) (hy : Wd y) (hlt : x < y) : ∃ j, j < 64 ∧ tb x j = false ∧ tb y j = true ∧ (∀ i, j < i → tb x i = tb y i) := by
  obtain ⟨j, h1, h2, h3⟩ := lt_bits hx hy (by omega)
  cases hxj : tb x j
  · rw [hxj] at h2
    cases hyj : tb y j
    · exact absurd hyj.symm h2
    · exact ⟨j, h1, hxj, hyj, h3⟩
  · rw [hxj] at h2
    cases hyj : tb y j
    · have := nat_lt_bits (j := j) (x := y.toNat) (y := x.toNat) hyj hxj (fun i hi => (h3 i hi).symm)
      have := hx.nat
      have := hy.nat
      omega
    · exact absurd hyj.symm h2
theorem lt_words {n : Nat} {la lb : List Int} (ha : MayP (n : Int) la) (hb1 : MayP (n : Int) lb) (hwa : Wds la) (hwb : Wds lb) {i : Nat} (hi : i < la.length) (hlt : la.getD i 0 < lb.getD i 0) (habove : ∀ j, i < j → la.getD j 0 = lb.getD j 0) : Lt n (hb la) (hb lb) := by
  obtain ⟨j, h1, h2, h3, h4⟩ := lt_word (hwa.getD i) (hwb.getD i) hlt
  have e1 : (64 * i + j) / 64 = i := by omega
  have e2 : (64 * i + j) % 64 = j := by omega
  have h5 : hb lb (64 * i + j) = true := by unfold hb; rw [e1, e2]; exact h3
  refine ⟨64 * i + j, ?_, ?_, h5, fun d h6 h7 => ?_⟩
  · refine Classical.byContradiction fun hc => ?_
    have := hb1.2.2.2 (64 * i + j) (by rw [Int.toNat_natCast]; omega)
    rw [this] at h5; cases h5
  · unfold hb; rw [e1, e2]; exact h2
  · unfold hb
    rcases Nat.lt_or_ge i (d / 64) with h8 | h8
    · rw [habove _ h8]
    · rw [show d / 64 = i by omega]
      exact h4 _ (by omega)
theorem sign_eq (b : Bool) : bitset_sign.f b = some (if b then -1 else 1) := by cases b <;> rfl
theorem Compare_l0 {n : Nat} {la lb : List Int} (ha : MayP (n : Int) la) (hb1 : MayP (n : Int) lb) (hwa : Wds la) (hwb : Wds lb) : ∀ i : Nat, i ≤ la.length → (∀ j, i ≤ j → la.getD j 0 = lb.getD j 0) →
    ∃ r, Ev (fun k => bitset_Compare.l0 k ((i : Int) - 1) (n : Int) la (n : Int) lb) r ∧ ((r = 0 ∧ ∀ d, hb la d = hb lb d) ∨ (r = -1 ∧ Lt n (hb la) (hb lb)) ∨ (r = 1 ∧ Lt n (hb lb) (hb la))) := by
  have hl : lb.length = la.length := by rw [ha.2.2.1, hb1.2.2.1]
  have hlen : la.length ≤ 64 := by have h1 := ha.2.1; have h2 := ha.2.2.1; omega
  intro i
  induction i with
  | zero =>
    intro _ h
    refine ⟨0, ⟨1, fun k hk => ?_⟩, .inl ⟨rfl, fun d => ?_⟩⟩
    · obtain ⟨k, rfl⟩ : ∃ m, k = m + 1 := ⟨k - 1, by omega⟩
      simp only [bitset_Compare.l0]
      rw [if_neg (by omega)]
    · unfold hb; rw [h (d / 64) (by omega)]
  | succ i ih =>
    intro hi h
    have hlt : i < la.length := by omega
    have e1 : (((i + 1 : Nat) : Int) - 1) = (i : Int) := by omega
    rw [e1]
    by_cases he : la.getD i 0 = lb.getD i 0
    · obtain ⟨r, h1, h2⟩ := ih (by omega) (fun j hj => by
        rcases Nat.eq_or_lt_of_le hj with rfl | h3
        · exact he
        · exact h j h3)
      refine ⟨r, Ev.step (fun k => ?_) h1, h2⟩
      conv => lhs; rw [bitset_Compare.l0]
      rw [if_pos (by omega), if_pos (by omega), if_pos (by omega), if_pos (by omega), rd_nat, rd_nat, if_pos he, w64_nat (by omega) (by omega)]
    · refine ⟨if la.getD i 0 < lb.getD i 0 then -1 else 1, ⟨1, fun k hk => ?_⟩, ?_⟩
      · obtain ⟨k, rfl⟩ : ∃ m, k = m + 1 := ⟨k - 1, by omega⟩
        simp only [bitset_Compare.l0]
        rw [if_pos (by omega), if_pos (by omega), if_pos (by omega), if_pos (by omega), rd_nat, rd_nat, if_neg he, sign_eq]
        by_cases h0 : la.getD i 0 < lb.getD i 0
        · rw [decide_eq_true h0, if_pos h0]; rfl
        · rw [decide_eq_false h0, if_neg h0]; rfl
      · by_cases h0 : la.getD i 0 < lb.getD i 0
        · rw [if_pos h0]
          exact .inr (.inl ⟨rfl, lt_words ha hb1 hwa hwb hlt h0 (fun j hj => h j hj)⟩)
        · rw [if_neg h0]
          exact .inr (.inr ⟨rfl, lt_words hb1 ha hwb hwa (by omega) (by omega) (fun j hj => (h j hj).symm)⟩)
theorem Compare_eq (a : Int) (la : List Int) (b : Int) (lb : List Int) (hwa : Wds la) (hwb : Wds lb) (hla : la.length ≤ 9223372036854775807) (hlb : lb.length ≤ 9223372036854775807) : ∃ r, CmpSays a la b lb r ∧ Ev (fun k => bitset_Compare.f k a la b lb) r := by
  have ma := May_eq a la hwa hla
  have mb := May_eq b lb hwb hlb
  by_cases h : MayP a la ∧ MayP b lb
  · obtain ⟨h1, h2⟩ := h
    rw [may_true.2 h1] at ma
    rw [may_true.2 h2] at mb
    have e0 : ∀ k, bitset_Compare.f k a la b lb = bitset_Compare.j0 k false a la b lb := by
      intro k
      unfold bitset_Compare.f
      rw [ma, Option.bind_some, if_pos rfl, mb, Option.bind_some]; rfl
    by_cases hab : a = b
    · subst hab
      obtain ⟨n, rfl⟩ := Int.eq_ofNat_of_zero_le h1.1
      have hl : lb.length = la.length := by rw [h1.2.2.1, h2.2.2.1]
      obtain ⟨r, h3, h4⟩ := Compare_l0 h1 h2 hwa hwb la.length (Nat.le_refl _) (fun j hj => by
        rw [List.getD_eq_getElem?_getD, List.getD_eq_getElem?_getD, List.getElem?_eq_none hj, List.getElem?_eq_none (by omega)])
      refine ⟨r, .inr ⟨h1, h2, .inr (.inr ⟨rfl, by simpa using h4⟩)⟩, Ev.congr e0 (Ev.step (fun k => ?_) h3)⟩
      rw [bitset_Compare.j0]
      rw [if_neg (by simp), if_pos rfl, w64_nat (by omega) (by omega)]
    · refine ⟨if a < b then -1 else 1, .inr ⟨h1, h2, ?_⟩, Ev.congr e0 (Ev.step (f := fun _ => some (if a < b then -1 else 1)) (fun k => ?_) (Ev.now _))⟩
      · by_cases h0 : a < b
        · rw [if_pos h0]; exact .inl ⟨h0, rfl⟩
        · rw [if_neg h0]; exact .inr (.inl ⟨by omega, rfl⟩)
      · rw [bitset_Compare.j0]
        rw [if_neg (by simp), if_neg hab, sign_eq]
        by_cases h0 : a < b
        · rw [decide_eq_true h0, if_pos h0]; rfl
        · rw [decide_eq_false h0, if_neg h0]; rfl
  · refine ⟨0, .inl ⟨h, rfl⟩, Ev.congr (f := fun k => bitset_Compare.j0 k true a la b lb) (fun k => ?_) (Ev.step (f := fun _ => some 0) (fun k => ?_) (Ev.now _))⟩
    · unfold bitset_Compare.f
      rw [ma, Option.bind_some]
      by_cases h1 : MayP a la
      · rw [may_true.2 h1, if_pos rfl, mb, Option.bind_some, may_false.2 (fun h2 => h ⟨h1, h2⟩)]; rfl
      · rw [may_false.2 h1, if_neg (by simp)]
    · rw [bitset_Compare.j0]
      rw [if_pos rfl]
end Go.Proofs.Ytjmkhdhffmlhiaa.PAll
end
section
namespace Go.Proofs.Ytjmkhdhffmlhiaa.PAll
open Go.RowKit Go.Proofs.YtjmkhdhffmlhiaaW.PrintWords Go.Proofs.YtjmkhdhffmlhiaaW.PrintLast Go.Proofs.YtjmkhdhffmlhiaaW.PrintMore
attribute [local go_sem] max2_int min2_int max_two min_two max_three min_three max_four min_four w64_u8 w64_mod256   -- for this text's walks alone
set_option linter.unusedVariables false
set_option linter.unusedSimpArgs false
end Go.Proofs.Ytjmkhdhffmlhiaa.PAll
end
section
namespace Go.Proofs.Ytjmkhdhffmlhiaa.PAll
open Go.RowKit Go.Proofs.YtjmkhdhffmlhiaaW.PrintWords Go.Proofs.YtjmkhdhffmlhiaaW.PrintMore
theorem mx_eq (a b : Int) : mx a b = max a b := by unfold mx; omega
theorem mn_eq (a b : Int) : mn a b = min a b := by unfold mn; omega
theorem from_eq (lo i : Nat) (h : (lo : Int) ≤ 9223372036854775807) (hi : i ≤ 64) : mx (wrap64 ((lo : Int) - ((64 * i : Nat) : Int))) 0 = ((lo - 64 * i : Nat) : Int) := by
  rw [w64_nat (by omega) (by omega)]
  unfold mx
  split <;> omega
theorem upto_eq (hi i : Nat) (h : hi ≤ 4096) (h2 : i ≤ 64) : mn (wrap64 ((hi : Int) - ((64 * i : Nat) : Int))) 64 = min ((hi : Int) - 64 * i) 64 := by
  rw [w64_nat (by omega) (by omega)]
  unfold mn
  split <;> omega
set_option maxHeartbeats 1000000 in
theorem Range_loop (n lo hi : Nat) (hn : n ≤ 4096) (hlo : (lo : Int) ≤ 9223372036854775807) (hhi : hi ≤ n) : ∀ (d i : Nat) (ws : List Int), i + d = ws.length → ws.length = (n + 63) / 64 → Wds ws →
    (∀ e, hb ws e = (decide (e < 64 * i) && (decide (lo ≤ e) && decide (e < hi)))) →
    ∃ ws', Is n (fun e => decide (lo ≤ e) && decide (e < hi)) ws' ∧ Ev (fun k => bitset_Range.l0 k (lo : Int) (hi : Int) (ws.length : Int) (i : Int) (n : Int) ws) ((n : Int), ws', 0) := by
  intro d
  induction d with
  | zero =>
    intro i ws h1 h2 hw h3
    refine ⟨ws, ⟨h2, hw, fun e => ?_⟩, ⟨1, fun k hk => ?_⟩⟩
    · rw [h3]
      by_cases h4 : e < hi
      · have h5 : e < 64 * i := by omega
        have h6 : e < n := by omega
        simp [h4, h5, h6]
      · simp [h4]
    · obtain ⟨k, rfl⟩ : ∃ m, k = m + 1 := ⟨k - 1, by omega⟩
      simp only [bitset_Range.l0]
      rw [if_neg (by omega)]
  | succ d ih =>
    intro i ws h1 h2 hw h3
    have hi64 : i < 64 := by omega
    have Hi1 := Aside0.mk (show wrap64 ((i : Int) * 64) = ((64 * i : Nat) : Int) by unfold wrap64; omega)
    have Hf := Aside0.mk (from_eq lo i hlo (by omega))
    have Ht := Aside0.mk (upto_eq hi i (by omega) (by omega))
    have Hinc := Aside0.mk (show wrap64 ((i : Int) + 1) = ((i + 1 : Nat) : Int) by unfold wrap64; omega)
    by_cases hlt : lo - 64 * i < min (hi - 64 * i) 64 ∧ 64 * i < hi
    · obtain ⟨f, hfd⟩ : ∃ f, lo - 64 * i = f := ⟨_, rfl⟩
      obtain ⟨t, htd⟩ : ∃ t, min (hi - 64 * i) 64 = t := ⟨_, rfl⟩
      have hft : f < t := by omega
      have ht64 : t ≤ 64 := by omega
      have ht0 : min ((hi : Int) - 64 * i) 64 = (t : Int) := by omega
      have hsp := fun j => span_tb hft ht64 j
      have Hd1 := Aside0.mk (show wrap64 ((t : Int) - (f : Int)) = (t : Int) - (f : Int) from w64_nat (by omega) (by omega))
      have Hd2 := Aside0.mk (show wrap64 (64 - ((t : Int) - (f : Int))) = 64 - ((t : Int) - (f : Int)) from w64_nat (by omega) (by omega))
      obtain ⟨v, hv⟩ : ∃ v, shl .u64 (shr .u64 18446744073709551615 (64 - ((t : Int) - (f : Int)))) (f : Int) = v := ⟨_, rfl⟩
      rw [hv] at hsp
      have Hv := Aside0.mk hv
      clear hv
      have hlen : (ws.set i v).length = ws.length := by simp
      obtain ⟨ws', h4, h5⟩ := ih (i + 1) (ws.set i v) (by omega) (by omega) (hw.set i (hsp 0).2) (fun e => by
        rw [hb_set _ _ _ (by omega)]
        by_cases he : i = e / 64
        · rw [if_pos he, (hsp _).1]
          have h7 : e < 64 * (i + 1) := by omega
          have h8 : f ≤ e % 64 ↔ lo ≤ e := by omega
          have h9 : e % 64 < t ↔ e < hi := by omega
          simp only [h7, h8, h9, decide_true, Bool.true_and]
        · rw [if_neg he, h3]
          have h7 : e < 64 * i ↔ e < 64 * (i + 1) := by omega
          simp only [h7])
      rw [hlen] at h5
      refine ⟨ws', h4, Ev.step (fun k => ?_) h5⟩
      conv => lhs; rw [bitset_Range.l0]
      rw [if_pos (by omega), Hi1.out, Hf.out, Ht.out, ht0, hfd, if_pos (by omega), Hd1.out, Hd2.out, if_pos (by omega), if_pos (by omega), if_pos (by omega), Hinc.out, Hv.out, Int.toNat_natCast]
    · obtain ⟨ws', h4, h5⟩ := ih (i + 1) ws (by omega) h2 hw (fun e => by
        rw [h3]
        by_cases he : i = e / 64
        · have h6 : ¬ (lo ≤ e ∧ e < hi) := by omega
          rw [← Bool.decide_and, decide_eq_false h6]
          simp
        · have h7 : e < 64 * i ↔ e < 64 * (i + 1) := by omega
          simp only [h7])
      refine ⟨ws', h4, Ev.step (fun k => ?_) h5⟩
      conv => lhs; rw [bitset_Range.l0]
      rw [if_pos (by omega), Hi1.out, Hf.out, Ht.out, if_neg (by omega), Hinc.out]
def RangeSays (size lo hi : Int) (r : Int × List Int × Int) : Prop :=
  ((size < 0 ∨ 4096 < size) ∧ r = (0, [], 60)) ∨ (0 ≤ size ∧ size ≤ 4096 ∧ ∃ ws, Is size.toNat (fun e => decide (lo ≤ (e : Int)) && decide ((e : Int) < hi)) ws ∧ r = (size, ws, 0))
theorem RangeSays.eq {size lo hi : Int} {r q : Int × List Int × Int} (h : RangeSays size lo hi r) (k : RangeSays size lo hi q) : r = q := by
  rcases h with ⟨h1, rfl⟩ | ⟨h1, h2, ws, h4, rfl⟩ <;> rcases k with ⟨k1, rfl⟩ | ⟨k1, k2, vs, k4, rfl⟩
  · rfl
  · omega
  · omega
  · rw [h4.eq k4 (fun _ _ => rfl)]
theorem Range_eq (size lo hi : Int) (hl : lo ≤ 9223372036854775807) : ∃ r, RangeSays size lo hi r ∧ Ev (fun k => bitset_Range.f k size lo hi) r := by
  by_cases hs : 0 ≤ size ∧ size ≤ 4096
  · obtain ⟨n, rfl⟩ := Int.eq_ofNat_of_zero_le hs.1
    have hn : n ≤ 4096 := by omega
    have h1 : mx lo 0 = (lo.toNat : Int) := by rw [mx_eq]; omega
    have h2 : mx (mn hi (n : Int)) 0 = ((min hi (n : Int)).toNat : Int) := by rw [mx_eq, mn_eq]; omega
    have hlen : (List.replicate ((n + 63) / 64) (0 : Int)).length = (n + 63) / 64 := by simp
    obtain ⟨ws, h3, h4⟩ := Range_loop n lo.toNat (min hi (n : Int)).toNat hn (by omega) (by omega) ((n + 63) / 64) 0 (List.replicate ((n + 63) / 64) 0) (by omega) hlen (Wds.replicate _) (fun e => by rw [hb_replicate]; simp)
    refine ⟨_, .inr ⟨by omega, by omega, ws, ?_, rfl⟩, Ev.congr (fun k => ?_) h4⟩
    · rw [Int.toNat_natCast]
      refine h3.congr fun e he => ?_
      rw [← Bool.decide_and, ← Bool.decide_and]
      congr 1
      simp only [eq_iff_iff]
      omega
    · unfold bitset_Range.f
      rw [sized_yes hn, Option.bind_some, if_pos rfl, blank_eq hn, Option.bind_some, h1, h2]
      rfl
  · refine ⟨_, .inl ⟨by omega, rfl⟩, Ev.const fun k => ?_⟩
    unfold bitset_Range.f
    rw [sized_no (by omega), Option.bind_some, if_neg (by simp)]
end Go.Proofs.Ytjmkhdhffmlhiaa.PAll
end
section
namespace Go.Proofs.Ytjmkhdhffmlhiaa.PAll
set_option linter.unusedVariables false
open Go.RowKit Go.Proofs.YtjmkhdhffmlhiaaW.PrintWords Go.Proofs.YtjmkhdhffmlhiaaW.PrintMore
def minb (both : Bool) (x y : Bool) : Bool := (x && !y) || (both && y && !x)
theorem rMinus_eq (a : Int) (la : List Int) (b : Int) (lb : List Int) (both : Bool) (hwa : Wds la) (hwb : Wds lb) (hla : la.length ≤ 9223372036854775807) (hlb : lb.length ≤ 9223372036854775807) :
    ∃ r, TwoSays (minb both) a la b lb r ∧ Ev (fun k => sloperef3_Minus.f k a la b lb both) r := by
  have ma := rMay_eq a la hwa hla
  have mb := rMay_eq b lb hwb hlb
  by_cases h : MayP a la ∧ MayP b lb
  · obtain ⟨h1, h2⟩ := h
    rw [may_true.2 h1] at ma
    rw [may_true.2 h2] at mb
    have e0 : ∀ v, Ev (fun k => sloperef3_Minus.j0 k both false a la b lb) v → Ev (fun k => sloperef3_Minus.f k a la b lb both) v := fun v hv =>
      Ev.bind (f := fun k t104 => (if t104 = true then ((sloperef3_May.f k b lb).bind fun t105 => (sloperef3_Minus.j0 k both (!t105) a la b lb)) else (sloperef3_Minus.j0 k both true a la b lb))) ma
        (Ev.congr (f := fun k => (sloperef3_May.f k b lb).bind fun t105 => (sloperef3_Minus.j0 k both (!t105) a la b lb)) (fun k => by rw [if_pos rfl]) (Ev.bind (f := fun k t105 => (sloperef3_Minus.j0 k both (!t105) a la b lb)) mb hv))
    by_cases hab : a = b
    · subst hab
      obtain ⟨n, rfl⟩ := Int.eq_ofNat_of_zero_le h1.1
      have hn : n ≤ 4096 := by have := h1.2.1; omega
      have l1 : la.length = (n + 63) / 64 := by simpa using h1.2.2.1
      have l2 : lb.length = (n + 63) / 64 := by simpa using h2.2.2.1
      obtain ⟨vs, h3, h4⟩ := Of_map n hn (fun d => minb both (hb la d) (hb lb d))
      refine ⟨((n : Int), vs, 0), .inr ⟨h1, h2, .inr ⟨rfl, vs, by simpa using h3, rfl⟩⟩, e0 _ (Ev.step (f := fun k => sloperef3_Minus.l0 k both (List.replicate n false) ((0 : Nat) : Int) (n : Int) la (n : Int) lb) (fun k => ?_) (fill_loop n (fun d => minb both (hb la d) (hb lb d)) (fun k inb i => sloperef3_Minus.l0 k both inb i (n : Int) la (n : Int) lb) _ (fun k i inb hi hlen => ?_) (Ev.step (fun k => ?_) h4)))⟩
      · rw [sloperef3_Minus.j0]
        rw [if_neg (by simp), if_pos rfl, if_pos (by omega), if_pos (by omega), Int.toNat_natCast]; rfl
      · conv => lhs; rw [sloperef3_Minus.l0]
        rw [if_pos (by omega), In_eq hwa (by omega) (by omega), Option.bind_some, In_eq hwb (by omega) (by omega), Option.bind_some, show wrap64 ((i : Int) + 1) = ((i + 1 : Nat) : Int) by unfold wrap64; omega]
        have p0 : (0 : Int) ≤ (i : Int) := by omega
        have p1 : (i : Int) < (inb.length : Int) := by omega
        simp only [if_pos p0, if_pos p1, Int.toNat_natCast]
        cases hb la i <;> cases hb lb i <;> cases both <;> rfl
      · conv => lhs; rw [sloperef3_Minus.l0]
        rw [if_neg (by omega)]
    · refine ⟨(0, [], 60), .inr ⟨h1, h2, .inl ⟨hab, rfl⟩⟩, e0 _ (Ev.step (f := fun _ => some (0, [], 60)) (fun k => ?_) (Ev.now _))⟩
      rw [sloperef3_Minus.j0]
      rw [if_neg (by simp), if_neg hab]; rfl
  · refine ⟨(0, [], 61), .inl ⟨h, rfl⟩, Ev.bind (f := fun k t104 => (if t104 = true then ((sloperef3_May.f k b lb).bind fun t105 => (sloperef3_Minus.j0 k both (!t105) a la b lb)) else (sloperef3_Minus.j0 k both true a la b lb))) ma ?_⟩
    have hj : Ev (fun k => sloperef3_Minus.j0 k both true a la b lb) (0, [], 61) := Ev.step (f := fun _ => some (0, [], 61)) (fun k => by rw [sloperef3_Minus.j0]; rw [if_pos rfl]; rfl) (Ev.now _)
    by_cases h1 : MayP a la
    · rw [may_true.2 h1]
      rw [may_false.2 (fun h2 => h ⟨h1, h2⟩)] at mb
      exact Ev.congr (f := fun k => (sloperef3_May.f k b lb).bind fun t105 => (sloperef3_Minus.j0 k both (!t105) a la b lb)) (fun k => by rw [if_pos rfl]) (Ev.bind (f := fun k t105 => (sloperef3_Minus.j0 k both (!t105) a la b lb)) mb hj)
    · rw [may_false.2 h1]
      exact Ev.congr (fun k => by rw [if_neg (by simp)]) hj
def RestSays (a : Int) (la : List Int) (r : Int × List Int × Int) : Prop :=
  (¬ MayP a la ∧ r = (0, [], 61)) ∨ (MayP a la ∧ ∃ vs, Is a.toNat (fun d => !hb la d) vs ∧ r = (a, vs, 0))
theorem RestSays.eq {a : Int} {la : List Int} {r q : Int × List Int × Int} (h : RestSays a la r) (k : RestSays a la q) : r = q := by
  rcases h with ⟨h1, rfl⟩ | ⟨h1, vs, h4, rfl⟩ <;> rcases k with ⟨k1, rfl⟩ | ⟨k1, us, k4, rfl⟩
  · rfl
  · exact absurd k1 h1
  · exact absurd h1 k1
  · rw [h4.eq k4 (fun _ _ => rfl)]
theorem RestSays.bound {a : Int} {la : List Int} {s : Int} {vs : List Int} {c : Int} (h : RestSays a la (s, vs, c)) : vs.length ≤ 9223372036854775807 := by
  rcases h with ⟨_, e⟩ | ⟨h1, us, h4, e⟩
  · cases e; simp
  · cases e; have := h1.2.1; rw [h4.len]; omega
theorem rRest_eq (a : Int) (la : List Int) (hwa : Wds la) (hla : la.length ≤ 9223372036854775807) : ∃ r, RestSays a la r ∧ Ev (fun k => sloperef3_Rest.f k a la) r := by
  have ma := rMay_eq a la hwa hla
  by_cases h1 : MayP a la
  · rw [may_true.2 h1] at ma
    obtain ⟨n, rfl⟩ := Int.eq_ofNat_of_zero_le h1.1
    have hn : n ≤ 4096 := by have := h1.2.1; omega
    have l1 : la.length = (n + 63) / 64 := by simpa using h1.2.2.1
    obtain ⟨vs, h3, h4⟩ := Of_map n hn (fun d => !hb la d)
    refine ⟨((n : Int), vs, 0), .inr ⟨h1, vs, by simpa using h3, rfl⟩, Ev.bind (f := fun k t103 => (if t103 = true then (if 0 ≤ (n : Int) then (if (n : Int).toNat ≤ 281474976710656 then (sloperef3_Rest.l0 k (List.replicate (n : Int).toNat false) 0 (n : Int) la) else (none)) else (none)) else ((sloperef3_none.f).bind fun bt104 => (some (bt104.1, bt104.2, 61))))) ma
      (Ev.congr (f := fun k => sloperef3_Rest.l0 k (List.replicate n false) ((0 : Nat) : Int) (n : Int) la) (fun k => ?_) (fill_loop n (fun d => !hb la d) (fun k inb i => sloperef3_Rest.l0 k inb i (n : Int) la) _ (fun k i inb hi hlen => ?_) (Ev.step (fun k => ?_) h4)))⟩
    · rw [if_pos rfl, if_pos (by omega), if_pos (by omega), Int.toNat_natCast]; rfl
    · conv => lhs; rw [sloperef3_Rest.l0]
      rw [if_pos (by omega), In_eq hwa (by omega) (by omega), Option.bind_some, if_pos (by omega), if_pos (by omega), Int.toNat_natCast, show wrap64 ((i : Int) + 1) = ((i + 1 : Nat) : Int) by unfold wrap64; omega]
    · conv => lhs; rw [sloperef3_Rest.l0]
      rw [if_neg (by omega)]
  · rw [may_false.2 h1] at ma
    refine ⟨(0, [], 61), .inl ⟨h1, rfl⟩, Ev.bind (f := fun k t103 => (if t103 = true then (if 0 ≤ a then (if (a : Int).toNat ≤ 281474976710656 then (sloperef3_Rest.l0 k (List.replicate (a : Int).toNat false) 0 a la) else (none)) else (none)) else ((sloperef3_none.f).bind fun bt104 => (some (bt104.1, bt104.2, 61))))) ma (Ev.const fun k => ?_)⟩
    rw [if_neg (by simp)]; rfl
theorem Rest_eq (a : Int) (la : List Int) (hwa : Wds la) (hla : la.length ≤ 9223372036854775807) : ∃ r, RestSays a la r ∧ Ev (fun k => bitset_Rest.f k a la) r := by
  have ma := May_eq a la hwa hla
  by_cases h1 : MayP a la
  · rw [may_true.2 h1] at ma
    obtain ⟨n, rfl⟩ := Int.eq_ofNat_of_zero_le h1.1
    have hn : n ≤ 4096 := by have := h1.2.1; omega
    obtain ⟨r, k1, K1, k2⟩ := Range_eq (n : Int) 0 (n : Int) (by omega)
    obtain ⟨vs, k3, rfl⟩ : ∃ vs, Is n (fun _ => true) vs ∧ r = ((n : Int), vs, 0) := by
      rcases k1 with ⟨k1, _⟩ | ⟨_, _, vs, k3, rfl⟩
      · omega
      · refine ⟨vs, ?_, rfl⟩
        rw [Int.toNat_natCast] at k3
        refine k3.congr fun d hd => ?_
        simp; omega
    have h5 := k3.may hn
    obtain ⟨r, t1, K2, t2⟩ := two_andNot_eq (n : Int) vs (n : Int) la k3.wds hwa (by have := k3.len; omega) hla
    obtain ⟨us, u1, rfl⟩ : ∃ us, Is n (fun d => !hb la d) us ∧ r = ((n : Int), us, 0) := by
      rcases t1 with ⟨t1, _⟩ | ⟨_, _, ⟨t1, _⟩ | ⟨_, us, u1, rfl⟩⟩
      · exact absurd ⟨h5, h1⟩ t1
      · exact absurd rfl t1
      · refine ⟨us, ?_, rfl⟩
        rw [Int.toNat_natCast] at u1
        refine u1.congr fun d hd => ?_
        rw [k3.has]; simp [hd]
    refine ⟨((n : Int), us, 0), .inr ⟨h1, us, by simpa using u1, rfl⟩, K1 + K2, fun k hk => ?_⟩
    have k2' := k2 k (by omega)
    have t2' := t2 k (by omega)
    dsimp only at k2' t2' ⊢
    unfold bitset_Rest.f
    rw [ma, Option.bind_some, if_pos rfl, k2', Option.bind_some, t2', Option.bind_some]
  · rw [may_false.2 h1] at ma
    refine ⟨(0, [], 61), .inl ⟨h1, rfl⟩, Ev.const fun k => ?_⟩
    unfold bitset_Rest.f
    rw [ma, Option.bind_some, if_neg (by simp)]
theorem Related_l0 {n : Nat} {la lb : List Int} (hn : n ≤ 4096) (hwa : Wds la) (hwb : Wds lb) (l1 : la.length = (n + 63) / 64) (l2 : lb.length = (n + 63) / 64) : ∀ (d i : Nat) (x y z : Bool), i + d = n →
    ∃ x' y' z', Ev (fun k => sloperef3_Related.l0 k x y z (i : Int) (n : Int) la (n : Int) lb) (x', y', z') ∧
      (x' = true ↔ x = true ∧ ∀ e, i ≤ e → e < n → hb la e = hb lb e) ∧ (y' = true ↔ y = true ∧ ∀ e, i ≤ e → e < n → (hb la e && !hb lb e) = false) ∧ (z' = true ↔ z = true ∧ ∀ e, i ≤ e → e < n → (hb la e && hb lb e) = false) := by
  intro d
  induction d with
  | zero =>
    intro i x y z hi
    refine ⟨x, y, z, ⟨1, fun k hk => ?_⟩, ⟨fun h => ⟨h, fun e h1 h2 => by omega⟩, fun h => h.1⟩, ⟨fun h => ⟨h, fun e h1 h2 => by omega⟩, fun h => h.1⟩, ⟨fun h => ⟨h, fun e h1 h2 => by omega⟩, fun h => h.1⟩⟩
    obtain ⟨k, rfl⟩ : ∃ m, k = m + 1 := ⟨k - 1, by omega⟩
    simp only [sloperef3_Related.l0]
    rw [if_neg (by omega)]
  | succ d ih =>
    intro i x y z hi
    obtain ⟨x', y', z', h1, h2, h3, h4⟩ := ih (i + 1) (x && (hb la i == hb lb i)) (y && (!hb la i || hb lb i)) (z && !(hb la i && hb lb i)) (by omega)
    have split : ∀ (P : Nat → Prop), (∀ e, i ≤ e → e < n → P e) ↔ (P i ∧ ∀ e, i + 1 ≤ e → e < n → P e) := fun P =>
      ⟨fun h => ⟨h i (Nat.le_refl _) (by omega), fun e h1 h2 => h e (by omega) h2⟩, fun h e h1 h2 => by
        rcases Nat.eq_or_lt_of_le h1 with rfl | h3
        · exact h.1
        · exact h.2 e h3 h2⟩
    refine ⟨x', y', z', Ev.step (fun k => ?_) h1, ?_, ?_, ?_⟩
    · conv => lhs; rw [sloperef3_Related.l0]
      rw [if_pos (by omega), In_eq hwa (by omega) (by omega), Option.bind_some, In_eq hwb (by omega) (by omega), Option.bind_some, show wrap64 ((i : Int) + 1) = ((i + 1 : Nat) : Int) by unfold wrap64; omega]
      cases x <;> cases y <;> cases z <;> cases hb la i <;> cases hb lb i <;> rfl
    · rw [h2, split, Bool.and_eq_true, beq_iff_eq, and_assoc]
    · rw [h3, split, Bool.and_eq_true, and_assoc]
      have : ((!hb la i || hb lb i) = true) ↔ ((hb la i && !hb lb i) = false) := by cases hb la i <;> cases hb lb i <;> simp
      rw [this]
    · rw [h4, split, Bool.and_eq_true, and_assoc]
      have : ((!(hb la i && hb lb i)) = true) ↔ ((hb la i && hb lb i) = false) := by cases hb la i <;> cases hb lb i <;> simp
      rw [this]
theorem NoneP_iff {f : Bool → Bool → Bool} (hf : f false false = false) {a : Int} {la lb : List Int} (ha : MayP a la) (hb1 : MayP a lb) : NoneP f a la a lb ↔ ∀ e, e < a.toNat → f (hb la e) (hb lb e) = false :=
  ⟨fun h e _ => h.2.2.2 e, fun h => ⟨ha, hb1, rfl, fun d => by
    by_cases hd : d < a.toNat
    · exact h d hd
    · rw [ha.2.2.2 d (by omega), hb1.2.2.2 d (by omega), hf]⟩⟩
theorem rRelated_eq (a : Int) (la : List Int) (b : Int) (lb : List Int) (hwa : Wds la) (hwb : Wds lb) (hla : la.length ≤ 9223372036854775807) (hlb : lb.length ≤ 9223372036854775807) :
    Ev (fun k => sloperef3_Related.f k a la b lb) (nonep (fun x y => x != y) a la b lb, nonep (fun x y => x && !y) a la b lb, nonep (fun x y => x && y) a la b lb) := by
  have ma := rMay_eq a la hwa hla
  have mb := rMay_eq b lb hwb hlb
  have hj : Ev (fun k => sloperef3_Related.j0 k true a la b lb) (false, false, false) := Ev.step (f := fun _ => some (false, false, false)) (fun k => by rw [sloperef3_Related.j0]; rw [if_pos rfl]) (Ev.now _)
  have hno : ∀ f, ¬ (MayP a la ∧ MayP b lb ∧ a = b) → nonep f a la b lb = false := fun f h => (nonep_of (x := false) ⟨fun h => (by cases h), fun k => absurd ⟨k.1, k.2.1, k.2.2.1⟩ h⟩).symm
  by_cases h1 : MayP a la
  · rw [may_true.2 h1] at ma
    refine Ev.bind (f := fun k t103 => (if t103 = true then ((sloperef3_May.f k b lb).bind fun t104 => (if t104 = true then (sloperef3_Related.j0 k (a != b) a la b lb) else (sloperef3_Related.j0 k true a la b lb))) else (sloperef3_Related.j0 k true a la b lb))) ma
      (Ev.congr (f := fun k => (sloperef3_May.f k b lb).bind fun t104 => (if t104 = true then (sloperef3_Related.j0 k (a != b) a la b lb) else (sloperef3_Related.j0 k true a la b lb))) (fun k => by rw [if_pos rfl]) (Ev.bind (f := fun k t104 => (if t104 = true then (sloperef3_Related.j0 k (a != b) a la b lb) else (sloperef3_Related.j0 k true a la b lb))) mb ?_))
    by_cases h2 : MayP b lb
    · rw [may_true.2 h2]
      refine Ev.congr (f := fun k => sloperef3_Related.j0 k (a != b) a la b lb) (fun k => by rw [if_pos rfl]) ?_
      by_cases hab : a = b
      · subst hab
        rw [bne_eq_false_iff_eq.mpr rfl]
        obtain ⟨n, rfl⟩ := Int.eq_ofNat_of_zero_le h1.1
        obtain ⟨x, y, z, h3, h4, h5, h6⟩ := Related_l0 (n := n) (by have := h1.2.1; omega) hwa hwb (by simpa using h1.2.2.1) (by simpa using h2.2.2.1) n 0 true true true (by omega)
        have e1 : x = nonep (fun x y => x != y) (n : Int) la (n : Int) lb := nonep_of (by
          rw [h4, NoneP_iff rfl h1 h2]
          simp only [true_and, Nat.zero_le, Int.toNat_natCast, forall_const]
          exact ⟨fun h e he => by rw [h e he]; cases hb lb e <;> rfl, fun h e he => by have := h e he; revert this; cases hb la e <;> cases hb lb e <;> simp⟩)
        have e2 : y = nonep (fun x y => x && !y) (n : Int) la (n : Int) lb := nonep_of (by
          rw [h5, NoneP_iff rfl h1 h2]
          simp only [true_and, Nat.zero_le, Int.toNat_natCast, forall_const])
        have e3 : z = nonep (fun x y => x && y) (n : Int) la (n : Int) lb := nonep_of (by
          rw [h6, NoneP_iff rfl h1 h2]
          simp only [true_and, Nat.zero_le, Int.toNat_natCast, forall_const])
        rw [← e1, ← e2, ← e3]
        refine Ev.step (fun k => ?_) h3
        rw [sloperef3_Related.j0]
        rw [if_neg (by simp)]; rfl
      · rw [bne_iff_ne.mpr hab, hno _ (fun h => hab h.2.2), hno _ (fun h => hab h.2.2), hno _ (fun h => hab h.2.2)]
        exact hj
    · rw [may_false.2 h2, hno _ (fun h => h2 h.2.1), hno _ (fun h => h2 h.2.1), hno _ (fun h => h2 h.2.1)]
      exact Ev.congr (fun k => by rw [if_neg (by simp)]) hj
  · rw [may_false.2 h1] at ma
    rw [hno _ (fun h => h1 h.1), hno _ (fun h => h1 h.1), hno _ (fun h => h1 h.1)]
    exact Ev.bind (f := fun k t103 => (if t103 = true then ((sloperef3_May.f k b lb).bind fun t104 => (if t104 = true then (sloperef3_Related.j0 k (a != b) a la b lb) else (sloperef3_Related.j0 k true a la b lb))) else (sloperef3_Related.j0 k true a la b lb))) ma (Ev.congr (fun k => by rw [if_neg (by simp)]) hj)
theorem rCompare_l0 {n : Nat} {la lb : List Int} (ha : MayP (n : Int) la) (hb1 : MayP (n : Int) lb) (hwa : Wds la) (hwb : Wds lb) : ∀ i : Nat, i ≤ n → (∀ j, i ≤ j → hb la j = hb lb j) →
    ∃ r, Ev (fun k => sloperef3_Compare.l0 k ((i : Int) - 1) (n : Int) la (n : Int) lb) r ∧ ((r = 0 ∧ ∀ d, hb la d = hb lb d) ∨ (r = -1 ∧ Lt n (hb la) (hb lb)) ∨ (r = 1 ∧ Lt n (hb lb) (hb la))) := by
  have hn : n ≤ 4096 := by have := ha.2.1; omega
  have l1 : la.length = (n + 63) / 64 := by simpa using ha.2.2.1
  have l2 : lb.length = (n + 63) / 64 := by simpa using hb1.2.2.1
  intro i
  induction i with
  | zero =>
    intro _ h
    refine ⟨0, ⟨1, fun k hk => ?_⟩, .inl ⟨rfl, fun d => h d (by omega)⟩⟩
    obtain ⟨k, rfl⟩ : ∃ m, k = m + 1 := ⟨k - 1, by omega⟩
    simp only [sloperef3_Compare.l0]
    rw [if_neg (by omega)]
  | succ i ih =>
    intro hi h
    have e1 : (((i + 1 : Nat) : Int) - 1) = (i : Int) := by omega
    rw [e1]
    have hs : ∀ k, sloperef3_Compare.l0 (k + 1) (i : Int) (n : Int) la (n : Int) lb = (if (hb la i != hb lb i) = true then (if hb la i = true then (some 1) else (some (-1))) else (sloperef3_Compare.l0 k ((i : Int) - 1) (n : Int) la (n : Int) lb)) := by
      intro k
      conv => lhs; rw [sloperef3_Compare.l0]
      rw [if_pos (by omega), In_eq hwa (by omega) (by omega), Option.bind_some, In_eq hwb (by omega) (by omega), Option.bind_some, w64_nat (by omega) (by omega)]
    by_cases he : hb la i = hb lb i
    · obtain ⟨r, h1, h2⟩ := ih (by omega) (fun j hj => by
        rcases Nat.eq_or_lt_of_le hj with rfl | h3
        · exact he
        · exact h j h3)
      refine ⟨r, Ev.step (fun k => ?_) h1, h2⟩
      rw [hs, if_neg (by rw [he]; simp)]
    · cases hx : hb la i
      · have hy : hb lb i = true := by rw [hx] at he; cases h0 : hb lb i; exact absurd h0.symm he; rfl
        refine ⟨-1, Ev.step (f := fun _ => some (-1)) (fun k => ?_) (Ev.now _), .inr (.inl ⟨rfl, i, by omega, hx, hy, fun d h1 h2 => h d h1⟩)⟩
        rw [hs, hx, hy]; rfl
      · have hy : hb lb i = false := by rw [hx] at he; cases h0 : hb lb i; rfl; exact absurd h0.symm he
        refine ⟨1, Ev.step (f := fun _ => some 1) (fun k => ?_) (Ev.now _), .inr (.inr ⟨rfl, i, by omega, hy, hx, fun d h1 h2 => (h d h1).symm⟩)⟩
        rw [hs, hx, hy]; rfl
theorem CmpSays.eq {a b r q : Int} {la lb : List Int} (h : CmpSays a la b lb r) (k : CmpSays a la b lb q) : r = q := by
  rcases h with ⟨h1, rfl⟩ | ⟨h1, h2, h3⟩ <;> rcases k with ⟨k1, rfl⟩ | ⟨k1, k2, k3⟩
  · rfl
  · exact absurd ⟨k1, k2⟩ h1
  · exact absurd ⟨h1, h2⟩ k1
  · rcases h3 with ⟨h3, rfl⟩ | ⟨h3, rfl⟩ | ⟨h3, h4⟩ <;> rcases k3 with ⟨k3, rfl⟩ | ⟨k3, rfl⟩ | ⟨k3, k4⟩ <;> first | rfl | omega | skip
    rcases h4 with ⟨rfl, h4⟩ | ⟨rfl, h4⟩ | ⟨rfl, h4⟩ <;> rcases k4 with ⟨rfl, k4⟩ | ⟨rfl, k4⟩ | ⟨rfl, k4⟩ <;> first
      | rfl
      | exact (Lt.irrefl (Lt.trans h4 k4)).elim
      | exact (Lt.irrefl (Lt.congr k4 (fun d _ => h4 d) (fun _ _ => rfl))).elim
      | exact (Lt.irrefl (Lt.congr k4 (fun _ _ => rfl) (fun d _ => h4 d))).elim
      | exact (Lt.irrefl (Lt.congr h4 (fun d _ => k4 d) (fun _ _ => rfl))).elim
      | exact (Lt.irrefl (Lt.congr h4 (fun _ _ => rfl) (fun d _ => k4 d))).elim
theorem rCompare_eq (a : Int) (la : List Int) (b : Int) (lb : List Int) (hwa : Wds la) (hwb : Wds lb) (hla : la.length ≤ 9223372036854775807) (hlb : lb.length ≤ 9223372036854775807) : ∃ r, CmpSays a la b lb r ∧ Ev (fun k => sloperef3_Compare.f k a la b lb) r := by
  have ma := rMay_eq a la hwa hla
  have mb := rMay_eq b lb hwb hlb
  have hj : Ev (fun k => sloperef3_Compare.j0 k true a la b lb) 0 := Ev.step (f := fun _ => some 0) (fun k => by rw [sloperef3_Compare.j0]; rw [if_pos rfl]) (Ev.now _)
  have key : ∀ v, Ev (fun k => if may a la = true then ((sloperef3_May.f k b lb).bind fun t104 => (sloperef3_Compare.j0 k (!t104) a la b lb)) else (sloperef3_Compare.j0 k true a la b lb)) v → Ev (fun k => sloperef3_Compare.f k a la b lb) v := fun v hv =>
    Ev.bind (f := fun k t103 => (if t103 = true then ((sloperef3_May.f k b lb).bind fun t104 => (sloperef3_Compare.j0 k (!t104) a la b lb)) else (sloperef3_Compare.j0 k true a la b lb))) ma hv
  by_cases h1 : MayP a la
  · have key2 : ∀ v, Ev (fun k => sloperef3_Compare.j0 k (!(may b lb)) a la b lb) v → Ev (fun k => sloperef3_Compare.f k a la b lb) v := fun v hv =>
      key v (Ev.congr (f := fun k => (sloperef3_May.f k b lb).bind fun t104 => (sloperef3_Compare.j0 k (!t104) a la b lb)) (fun k => by rw [may_true.2 h1, if_pos rfl]) (Ev.bind (f := fun k t104 => (sloperef3_Compare.j0 k (!t104) a la b lb)) mb hv))
    by_cases h2 : MayP b lb
    · rw [may_true.2 h2] at key2
      by_cases hab : a = b
      · subst hab
        obtain ⟨n, rfl⟩ := Int.eq_ofNat_of_zero_le h1.1
        obtain ⟨r, h3, h4⟩ := rCompare_l0 h1 h2 hwa hwb n (Nat.le_refl _) (fun j hj => by rw [h1.2.2.2 j (by omega), h2.2.2.2 j (by omega)])
        refine ⟨r, .inr ⟨h1, h2, .inr (.inr ⟨rfl, by simpa using h4⟩)⟩, key2 _ (Ev.step (fun k => ?_) h3)⟩
        have := h1.2.1
        rw [sloperef3_Compare.j0]
        rw [if_neg (by simp), if_neg (by omega), if_neg (by omega), w64_nat (by omega) (by omega)]
      · refine ⟨if a < b then -1 else 1, .inr ⟨h1, h2, ?_⟩, key2 _ (Ev.step (f := fun _ => some (if a < b then -1 else 1)) (fun k => ?_) (Ev.now _))⟩
        · by_cases h0 : a < b
          · rw [if_pos h0]; exact .inl ⟨h0, rfl⟩
          · rw [if_neg h0]; exact .inr (.inl ⟨by omega, rfl⟩)
        · rw [sloperef3_Compare.j0]
          rw [if_neg (by simp)]
          by_cases h0 : a < b
          · rw [if_pos h0, if_pos h0]
          · rw [if_neg h0, if_neg h0, if_pos (by omega)]
    · rw [may_false.2 h2] at key2
      exact ⟨0, .inl ⟨fun h => h2 h.2, rfl⟩, key2 _ hj⟩
  · exact ⟨0, .inl ⟨fun h => h1 h.1, rfl⟩, key _ (Ev.congr (fun k => by rw [may_false.2 h1, if_neg (by simp)]) hj)⟩
end Go.Proofs.Ytjmkhdhffmlhiaa.PAll
end
