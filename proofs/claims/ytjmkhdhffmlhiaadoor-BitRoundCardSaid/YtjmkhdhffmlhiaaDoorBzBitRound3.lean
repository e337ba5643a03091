import Derived.Test.YtjmkhdhffmlhiaaDoorBzBitRound1
import Derived.Test.YtjmkhdhffmlhiaaDoorBzBitRound2
import Derived.SizedLaws
import Derived.Laws.Bits64b
import Derived.Lib.TrailingZeros
import Derived.WalkKit
import Derived.RangeFuncNested
import Derived.RangeFuncBound
import Derived.RangeFuncCalls
import Derived.RangeFuncLeaves
import Derived.RangeFuncBox
import Derived.Shelf.Abstract
import Derived.Shelf.RegionOpen
import Derived.OwnWalkIn
import Derived.TacticsInMore
import Derived.LoopNIn
import Derived.LoopIn
import Derived.RangeFuncFrom
import Derived.OrdersIn
import Derived.TacticsIn
import Derived.Lib.Hide
import Derived.StillTailTactics
import Derived.Laws.IdiomCopy
import Derived.Shelf.Strings.Builder1
import Derived.Shelf.LaysM
import Derived.Shelf.Strconv.Itoa3
import Derived.Lib.AppendIntMem
section
namespace Go.Proofs.YtjmkhdhffmlhiaaDoor.PAll
set_option linter.unusedVariables false
open Go.RowKit Go.Proofs.YtjmkhdhffmlhiaaDoorW.PrintWords Go.Proofs.YtjmkhdhffmlhiaaDoorW.PrintMore
def Wd (x : Int) : Prop := 0 ≤ x ∧ x < 18446744073709551616
def tb (x : Int) (j : Nat) : Bool := x.toNat.testBit j
theorem wrap_u64 (n : Int) : IntKind.u64.wrap n = n % 18446744073709551616 := by simp [IntKind.wrap, IntKind.bits, IntKind.signed]
theorem wraps_u64 (n : Int) (h : Wd n) : IntKind.u64.wrap n = n := by rw [wrap_u64]; unfold Wd at h; omega
theorem Wd.nat {x : Int} (h : Wd x) : x.toNat < 2 ^ 64 ∧ (x.toNat : Int) = x := by unfold Wd at h; omega
theorem Wd.of {n : Nat} (h : n < 2 ^ 64) : Wd (n : Int) := by unfold Wd; omega
theorem Wd.zero : Wd 0 := by unfold Wd; omega
theorem tb_ext {x y : Int} (hx : Wd x) (hy : Wd y) (h : ∀ j, j < 64 → tb x j = tb y j) : x = y := by
  have hx' := hx.nat
  have hy' := hy.nat
  have : x.toNat = y.toNat := Nat.eq_of_testBit_eq fun j => by
    rcases Nat.lt_or_ge j 64 with hj | hj
    · exact h j hj
    · rw [Nat.testBit_lt_two_pow (Nat.lt_of_lt_of_le hx'.1 (Nat.pow_le_pow_right (by decide) hj)), Nat.testBit_lt_two_pow (Nat.lt_of_lt_of_le hy'.1 (Nat.pow_le_pow_right (by decide) hj))]
  rw [← hx'.2, ← hy'.2, this]
theorem tb_high {x : Int} (hx : Wd x) {j : Nat} (hj : 64 ≤ j) : tb x j = false :=
  Nat.testBit_lt_two_pow (Nat.lt_of_lt_of_le hx.nat.1 (Nat.pow_le_pow_right (by decide) hj))
theorem bits_bv (op : BinOp) (f : BitVec 64 → BitVec 64 → BitVec 64) (hf : ∀ a b : Int, Go.bits op .u64 a b = IntKind.u64.wrap ((f (BitVec.ofInt 64 a) (BitVec.ofInt 64 b)).toNat : Int)) (a b : Int) :
    Go.bits op .u64 a b = ((f (BitVec.ofInt 64 a) (BitVec.ofInt 64 b)).toNat : Int) ∧ Wd (Go.bits op .u64 a b) := by
  have h := (f (BitVec.ofInt 64 a) (BitVec.ofInt 64 b)).isLt
  have hw : Wd ((f (BitVec.ofInt 64 a) (BitVec.ofInt 64 b)).toNat : Int) := Wd.of h
  rw [hf, wraps_u64 _ hw]
  exact ⟨rfl, hw⟩
theorem ofInt_tb {a : Int} (ha : Wd a) (j : Nat) : (BitVec.ofInt 64 a).toNat.testBit j = tb a j := by
  have h := ha.nat
  have : (BitVec.ofInt 64 a).toNat = a.toNat := by
    rw [BitVec.toNat_ofInt]
    unfold Wd at ha
    omega
  rw [this]; rfl
theorem or_eq (a b : Int) : Go.bits .or .u64 a b = ((BitVec.ofInt 64 a ||| BitVec.ofInt 64 b).toNat : Int) ∧ Wd (Go.bits .or .u64 a b) := bits_bv .or (· ||| ·) (fun _ _ => rfl) a b
theorem and_eq (a b : Int) : Go.bits .and .u64 a b = ((BitVec.ofInt 64 a &&& BitVec.ofInt 64 b).toNat : Int) ∧ Wd (Go.bits .and .u64 a b) := bits_bv .and (· &&& ·) (fun _ _ => rfl) a b
theorem andNot_eq (a b : Int) : Go.bits .andNot .u64 a b = ((BitVec.ofInt 64 a &&& ~~~ BitVec.ofInt 64 b).toNat : Int) ∧ Wd (Go.bits .andNot .u64 a b) := bits_bv .andNot (fun x y => x &&& ~~~ y) (fun _ _ => rfl) a b
theorem tb_or {a b : Int} (ha : Wd a) (hb : Wd b) (j : Nat) : tb (Go.bits .or .u64 a b) j = (tb a j || tb b j) := by
  rw [(or_eq a b).1]; unfold tb; rw [Int.toNat_natCast, BitVec.toNat_or, Nat.testBit_or, ofInt_tb ha, ofInt_tb hb]; rfl
theorem tb_and {a b : Int} (ha : Wd a) (hb : Wd b) (j : Nat) : tb (Go.bits .and .u64 a b) j = (tb a j && tb b j) := by
  rw [(and_eq a b).1]; unfold tb; rw [Int.toNat_natCast, BitVec.toNat_and, Nat.testBit_and, ofInt_tb ha, ofInt_tb hb]; rfl
theorem tb_andNot {a b : Int} (ha : Wd a) (hb : Wd b) (j : Nat) : tb (Go.bits .andNot .u64 a b) j = (tb a j && !tb b j) := by
  rw [(andNot_eq a b).1]; unfold tb; rw [Int.toNat_natCast, BitVec.toNat_and, Nat.testBit_and, ofInt_tb ha]
  rcases Nat.lt_or_ge j 64 with hj | hj
  · congr 1
    rw [BitVec.testBit_toNat, BitVec.getLsbD_not]
    simp only [hj, decide_true, Bool.true_and]
    rw [← BitVec.testBit_toNat, ofInt_tb hb]; rfl
  · have := tb_high ha hj
    unfold tb at this
    rw [show tb a j = false from this, this]; simp
theorem one_shl {e : Int} (h0 : 0 ≤ e) (h1 : e < 64) : shl .u64 1 e = ((2 ^ e.toNat : Nat) : Int) ∧ Wd (shl .u64 1 e) := by
  have hp : 2 ^ e.toNat < 2 ^ 64 := Nat.pow_lt_pow_right (by decide) (by omega)
  have hw : Wd ((2 ^ e.toNat : Nat) : Int) := Wd.of hp
  have : shl .u64 1 e = IntKind.u64.wrap ((2 ^ e.toNat : Nat) : Int) := by
    unfold shl
    rw [show min e.toNat IntKind.u64.bits = e.toNat by simp [IntKind.bits]; omega, Int.one_mul]
    congr 1
  rw [this, wraps_u64 _ hw]
  exact ⟨rfl, hw⟩
theorem tb_one {e : Int} (h0 : 0 ≤ e) (h1 : e < 64) (j : Nat) : tb (shl .u64 1 e) j = decide (j = e.toNat) := by
  rw [(one_shl h0 h1).1]; unfold tb; rw [Int.toNat_natCast, Nat.testBit_two_pow]
  by_cases h : j = e.toNat
  · simp [h]
  · simp [h]; omega
theorem tb_zero (j : Nat) : tb 0 j = false := by simp [tb]
theorem shr_eq {x e : Int} (hx : Wd x) (h0 : 0 ≤ e) (h1 : e < 64) : shr .u64 x e = ((x.toNat >>> e.toNat : Nat) : Int) := by
  unfold shr
  rw [show min e.toNat IntKind.u64.bits = e.toNat by simp [IntKind.bits]; omega, Nat.shiftRight_eq_div_pow]
  conv => lhs; rw [← hx.nat.2]
  simp
theorem shr_bit {x e : Int} (hx : Wd x) (h0 : 0 ≤ e) (h1 : e < 64) : (Int.tmod (shr .u64 x e) 2 == 1) = tb x e.toNat := by
  rw [shr_eq hx h0 h1]
  unfold tb
  rw [Nat.testBit_eq_decide_div_mod_eq, ← Nat.shiftRight_eq_div_pow]
  have : Int.tmod ((x.toNat >>> e.toNat : Nat) : Int) 2 = ((x.toNat >>> e.toNat % 2 : Nat) : Int) := by
    rw [show (2 : Int) = ((2 : Nat) : Int) from rfl, ← Int.ofNat_tmod]
  rw [this]
  by_cases h : x.toNat >>> e.toNat % 2 = 1
  · simp [h]
  · have h2 : ¬ (((x.toNat >>> e.toNat % 2 : Nat) : Int) = 1) := by omega
    simp only [h, decide_false]
    exact beq_eq_false_iff_ne.mpr h2
def Wds (ws : List Int) : Prop := ∀ x ∈ ws, Wd x
def hb (ws : List Int) (e : Nat) : Bool := tb (ws.getD (e / 64) 0) (e % 64)
def putw (ws : List Int) (e : Nat) : List Int := ws.set (e / 64) (Go.bits .or .u64 (ws.getD (e / 64) 0) (shl .u64 1 ((e % 64 : Nat) : Int)))
theorem Wds.getD {ws : List Int} (h : Wds ws) (i : Nat) : Wd (ws.getD i 0) := by
  rw [List.getD_eq_getElem?_getD]
  rcases Nat.lt_or_ge i ws.length with hi | hi
  · rw [List.getElem?_eq_getElem hi]; exact h _ (List.getElem_mem hi)
  · rw [List.getElem?_eq_none hi]; exact Wd.zero
theorem Wds.set {ws : List Int} (h : Wds ws) (i : Nat) {x : Int} (hx : Wd x) : Wds (ws.set i x) := by
  intro y hy
  rcases List.mem_or_eq_of_mem_set hy with h1 | h1
  · exact h _ h1
  · exact h1 ▸ hx
theorem Wds.replicate (n : Nat) : Wds (List.replicate n 0) := by
  intro x hx
  rw [(List.mem_replicate.1 hx).2]
  exact Wd.zero
theorem Wds.nil : Wds [] := fun _ h => by cases h
theorem rd_nat (ws : List Int) (i : Nat) : rd ws (i : Int) = ws.getD i 0 := by simp [rd]
theorem getD_set (ws : List Int) (i j : Nat) (x : Int) (hi : i < ws.length) : (ws.set i x).getD j 0 = if i = j then x else ws.getD j 0 := by
  rw [List.getD_eq_getElem?_getD, List.getElem?_set, List.getD_eq_getElem?_getD]
  by_cases h : i = j
  · subst h; simp [hi]
  · simp [h]
theorem hb_ext {ws vs : List Int} (hw : Wds ws) (hv : Wds vs) (hl : ws.length = vs.length) (h : ∀ e, e < 64 * ws.length → hb ws e = hb vs e) : ws = vs := by
  apply List.ext_getElem hl
  intro i h1 h2
  have hi : ws.getD i 0 = ws[i] := by rw [List.getD_eq_getElem?_getD, List.getElem?_eq_getElem h1]; rfl
  have hi2 : vs.getD i 0 = vs[i] := by rw [List.getD_eq_getElem?_getD, List.getElem?_eq_getElem h2]; rfl
  apply tb_ext (hw _ (List.getElem_mem h1)) (hv _ (List.getElem_mem h2))
  intro j hj
  have := h (64 * i + j) (by omega)
  unfold hb at this
  rw [show (64 * i + j) / 64 = i by omega, show (64 * i + j) % 64 = j by omega, hi, hi2] at this
  exact this
theorem hb_replicate (n e : Nat) : hb (List.replicate n 0) e = false := by
  unfold hb
  have : (List.replicate n (0 : Int)).getD (e / 64) 0 = 0 := by
    rw [List.getD_eq_getElem?_getD, List.getElem?_replicate]
    split <;> rfl
  rw [this]; exact tb_zero _
theorem hb_high {ws : List Int} {e : Nat} (h : 64 * ws.length ≤ e) : hb ws e = false := by
  unfold hb
  have : ws.getD (e / 64) 0 = 0 := by
    rw [List.getD_eq_getElem?_getD, List.getElem?_eq_none (by omega)]; rfl
  rw [this]; exact tb_zero _
theorem putw_length (ws : List Int) (e : Nat) : (putw ws e).length = ws.length := by simp [putw]
theorem putw_Wds {ws : List Int} (h : Wds ws) (e : Nat) : Wds (putw ws e) := h.set _ (or_eq _ _).2
theorem hb_putw {ws : List Int} (h : Wds ws) {e : Nat} (he : e / 64 < ws.length) (d : Nat) : hb (putw ws e) d = (hb ws d || decide (d = e)) := by
  unfold hb putw
  rw [getD_set _ _ _ _ he]
  by_cases h1 : e / 64 = d / 64
  · rw [if_pos h1, tb_or (h.getD _) (one_shl (by omega) (by omega)).2, tb_one (by omega) (by omega), h1]
    congr 1
    simp only [Int.toNat_natCast]
    by_cases h2 : d = e
    · subst h2; simp
    · simp only [h2, decide_false, decide_eq_false_iff_not]; omega
  · rw [if_neg h1]
    have : ¬ d = e := fun h2 => h1 (by rw [h2])
    simp [this]
structure Is (n : Nat) (p : Nat → Bool) (ws : List Int) : Prop where
  len : ws.length = (n + 63) / 64
  wds : Wds ws
  has : ∀ e, hb ws e = (decide (e < n) && p e)
theorem Is.eq {n : Nat} {p q : Nat → Bool} {ws vs : List Int} (h : Is n p ws) (k : Is n q vs) (hpq : ∀ e, e < n → p e = q e) : ws = vs := by
  apply hb_ext h.wds k.wds (h.len.trans k.len.symm)
  intro e _
  rw [h.has, k.has]
  by_cases he : e < n
  · rw [hpq e he]
  · simp [he]
theorem Is.congr {n : Nat} {p q : Nat → Bool} {ws : List Int} (h : Is n p ws) (hpq : ∀ e, e < n → p e = q e) : Is n q ws :=
  ⟨h.len, h.wds, fun e => by rw [h.has]; by_cases he : e < n <;> simp [he]; exact hpq e he⟩
theorem Is.none (n : Nat) : Is n (fun _ => false) (List.replicate ((n + 63) / 64) 0) := ⟨by simp, Wds.replicate _, fun e => by rw [hb_replicate]; simp⟩
theorem Is.put {n : Nat} {p : Nat → Bool} {ws : List Int} (h : Is n p ws) {e : Nat} (he : e < n) : Is n (fun d => p d || decide (d = e)) (putw ws e) := by
  refine ⟨by rw [putw_length, h.len], putw_Wds h.wds e, fun d => ?_⟩
  rw [hb_putw h.wds (by rw [h.len]; omega), h.has]
  by_cases h1 : d = e
  · subst h1; simp [he]
  · simp [h1]
theorem Is.lt {n : Nat} {p : Nat → Bool} {ws : List Int} (h : Is n p ws) {e : Nat} (he : e < n) : e / 64 < ws.length := by rw [h.len]; omega
theorem w64_nat {n : Int} (h0 : -9223372036854775808 ≤ n) (h1 : n ≤ 9223372036854775807) : wrap64 n = n := by unfold wrap64; omega
theorem tdiv_nat (e : Nat) : Int.tdiv (e : Int) 64 = ((e / 64 : Nat) : Int) := by rw [show (64 : Int) = ((64 : Nat) : Int) from rfl, ← Int.ofNat_tdiv]
theorem tmod_nat (e : Nat) : Int.tmod (e : Int) 64 = ((e % 64 : Nat) : Int) := by rw [show (64 : Int) = ((64 : Nat) : Int) from rfl, ← Int.ofNat_tmod]
theorem sized_yes {n : Nat} (h : n ≤ 4096) : bitset_sized.f (n : Int) = some true := by
  unfold bitset_sized.f
  rw [if_pos (by omega), decide_eq_true (by omega)]
theorem sized_no {n : Int} (h : n < 0 ∨ 4096 < n) : bitset_sized.f n = some false := by
  unfold bitset_sized.f
  by_cases h0 : n ≥ 0
  · rw [if_pos h0, decide_eq_false (by omega)]
  · rw [if_neg h0]
theorem words_eq {n : Nat} (h : n ≤ 4096) : bitset_words.f (n : Int) = some (((n + 63) / 64 : Nat) : Int) := by
  unfold bitset_words.f
  have h1 : wrap64 (wrap64 ((n : Int) + 64) - 1) = ((n + 63 : Nat) : Int) := by unfold wrap64; omega
  rw [h1, tdiv_nat]
  congr 1
  apply w64_nat <;> omega
theorem blank_eq {n : Nat} (h : n ≤ 4096) : bitset_blank.f (n : Int) = some ((n : Int), List.replicate ((n + 63) / 64) 0) := by
  unfold bitset_blank.f
  rw [words_eq h]
  simp only [Option.bind_some, Int.toNat_natCast]
  rw [if_pos (by omega), if_pos (by omega)]
theorem within_yes {n e : Nat} (ws : List Int) (h : e < n) : bitset_within.f (n : Int) ws (e : Int) = some true := by
  unfold bitset_within.f
  rw [if_pos (by omega), decide_eq_true (by omega)]
theorem within_no {n : Nat} (ws : List Int) {e : Int} (h : e < 0 ∨ (n : Int) ≤ e) : bitset_within.f (n : Int) ws e = some false := by
  unfold bitset_within.f
  by_cases h0 : e ≥ 0
  · rw [if_pos h0, decide_eq_false (by omega)]
  · rw [if_neg h0]
theorem put_eq {n : Int} {ws : List Int} {e : Nat} (he : e / 64 < ws.length) (hb : e < 1000000) : bitset_put.f n ws (e : Int) = some (putw ws e) := by
  unfold bitset_put.f
  rw [tdiv_nat, tmod_nat, w64_nat (by omega) (by omega), if_pos (by omega), if_pos (by omega), if_pos (by omega)]
  simp only [Int.toNat_natCast, putw, rd_nat]
def MakeSays (size : Int) (l : List Int) (r : Int × List Int × Int) : Prop :=
  ((size < 0 ∨ 4096 < size) ∧ r = (0, [], 60)) ∨ (0 ≤ size ∧ size ≤ 4096 ∧ (((∃ x ∈ l, x < 0 ∨ size ≤ x) ∧ r = (0, [], 62)) ∨
    ((∀ x ∈ l, 0 ≤ x ∧ x < size) ∧ ∃ ws, Is size.toNat (fun e => decide ((e : Int) ∈ l)) ws ∧ r = (size, ws, 0))))
theorem MakeSays.eq {size : Int} {l : List Int} {r q : Int × List Int × Int} (h : MakeSays size l r) (k : MakeSays size l q) : r = q := by
  rcases h with ⟨h1, rfl⟩ | ⟨h1, h2, ⟨⟨x, h3, h4⟩, rfl⟩ | ⟨h3, ws, h4, rfl⟩⟩ <;> rcases k with ⟨k1, rfl⟩ | ⟨k1, k2, ⟨⟨y, k3, k4⟩, rfl⟩ | ⟨k3, vs, k4, rfl⟩⟩
  · rfl
  · omega
  · omega
  · omega
  · rfl
  · have := k3 x h3; omega
  · omega
  · have := h3 y k3; omega
  · rw [h4.eq k4 (fun _ _ => rfl)]
def MayP (n : Int) (ws : List Int) : Prop := 0 ≤ n ∧ n ≤ 4096 ∧ ws.length = (n.toNat + 63) / 64 ∧ ∀ e : Nat, n.toNat ≤ e → hb ws e = false
noncomputable def may (n : Int) (ws : List Int) : Bool := @decide (MayP n ws) (Classical.propDecidable _)
theorem may_true {n : Int} {ws : List Int} : may n ws = true ↔ MayP n ws := by unfold may; exact @decide_eq_true_iff _ (Classical.propDecidable _)
theorem may_false {n : Int} {ws : List Int} : may n ws = false ↔ ¬ MayP n ws := by unfold may; exact @decide_eq_false_iff_not _ (Classical.propDecidable _)
theorem may_of {n : Int} {ws : List Int} {b : Bool} (h : b = true ↔ MayP n ws) : b = may n ws := by
  rw [Bool.eq_iff_iff, h, may_true]
theorem MayP.is {n : Int} {ws : List Int} (h : MayP n ws) (hw : Wds ws) : Is n.toNat (hb ws) ws :=
  ⟨h.2.2.1, hw, fun e => by
    by_cases he : e < n.toNat
    · simp [he]
    · rw [h.2.2.2 e (by omega)]; simp [he]⟩
theorem Is.may {n : Nat} {p : Nat → Bool} {ws : List Int} (h : Is n p ws) (hn : n ≤ 4096) : MayP (n : Int) ws :=
  ⟨by omega, by omega, by rw [h.len]; simp, fun e he => (by
    rw [h.has]
    have : ¬ e < n := by omega
    simp [this])⟩
theorem In_eq {n : Int} {ws : List Int} {e : Nat} (hw : Wds ws) (he : e / 64 < ws.length) (hb1 : e < 1000000) : sloperef3_In.f n ws (e : Int) = some (hb ws e) := by
  unfold sloperef3_In.f
  rw [tdiv_nat, tmod_nat, w64_nat (by omega) (by omega), wraps_u64 _ (by unfold Wd; omega), if_pos (by omega), if_pos (by omega), if_pos (by omega), rd_nat, shr_bit (hw.getD _) (by omega) (by omega)]
  simp only [hb, Int.toNat_natCast]
theorem rMay_loop (n : Int) (ws : List Int) (hw : Wds ws) (hl : ws.length ≤ 64) : ∀ d i : Nat, i + d = 64 * ws.length → ∃ b : Bool, (b = true ↔ ∀ e, i ≤ e → hb ws e = false) ∧ Ev (fun k => sloperef3_May.l0 k (i : Int) n ws) b := by
  intro d
  induction d with
  | zero =>
    intro i hi
    refine ⟨true, ⟨fun _ e he => hb_high (by omega), fun _ => rfl⟩, ⟨1, fun k hk => ?_⟩⟩
    obtain ⟨k, rfl⟩ : ∃ m, k = m + 1 := ⟨k - 1, by omega⟩
    simp only [sloperef3_May.l0]
    rw [w64_nat (by omega) (by omega), if_neg (by omega)]
  | succ d ih =>
    intro i hi
    have hlt : i / 64 < ws.length := by omega
    by_cases hx : hb ws i = true
    · refine ⟨false, ⟨fun h => (by cases h), fun h => (by rw [h i (Nat.le_refl _)] at hx; cases hx)⟩, ⟨1, fun k hk => ?_⟩⟩
      obtain ⟨k, rfl⟩ : ∃ m, k = m + 1 := ⟨k - 1, by omega⟩
      simp only [sloperef3_May.l0]
      rw [w64_nat (by omega) (by omega), if_pos (by omega), In_eq hw hlt (by omega), Option.bind_some, if_pos hx]
    · obtain ⟨b, h1, h2⟩ := ih (i + 1) (by omega)
      refine ⟨b, h1.trans ⟨fun h e he => ?_, fun h e he => h e (by omega)⟩, Ev.step (fun k => ?_) h2⟩
      · rcases Nat.eq_or_lt_of_le he with rfl | h3
        · simpa using hx
        · exact h e h3
      · conv => lhs; rw [sloperef3_May.l0]
        rw [w64_nat (by omega) (by omega), if_pos (by omega), In_eq hw hlt (by omega), Option.bind_some, if_neg hx]
        rw [show wrap64 ((i : Int) + 1) = ((i + 1 : Nat) : Int) by unfold wrap64; omega]
theorem rMay_eq (n : Int) (ws : List Int) (hw : Wds ws) (hl : ws.length ≤ 9223372036854775807) : Ev (fun k => sloperef3_May.f k n ws) (may n ws) := by
  by_cases hs : 0 ≤ n ∧ n ≤ 4096
  · obtain ⟨m, rfl⟩ := Int.eq_ofNat_of_zero_le hs.1
    have h3 : wrap64 (Int.tdiv (wrap64 ((m : Int) + 63)) 64) = (((m + 63) / 64 : Nat) : Int) := by
      rw [show wrap64 ((m : Int) + 63) = ((m + 63 : Nat) : Int) by unfold wrap64; omega, tdiv_nat, w64_nat (by omega) (by omega)]
    by_cases hq : ws.length = (m + 63) / 64
    · obtain ⟨b, h1, h2⟩ := rMay_loop (m : Int) ws hw (by omega) (64 * ws.length - m) m (by omega)
      have hb' : b = may (m : Int) ws := may_of ⟨fun h => ⟨by omega, by omega, by simpa using hq, by simpa using h1.1 h⟩, fun h => h1.2 (by simpa using h.2.2.2)⟩
      rw [← hb']
      refine Ev.congr (f := fun k => sloperef3_May.j0 k false (m : Int) ws) (fun k => ?_) (Ev.step (fun k => ?_) h2)
      · unfold sloperef3_May.f
        rw [if_neg (by omega), if_neg (by omega), h3, bne_eq_false_iff_eq.mpr (by omega)]
      · rw [sloperef3_May.j0]
        rw [if_neg (by simp)]
    · have hb' : may (m : Int) ws = false := may_false.2 fun h => hq (by simpa using h.2.2.1)
      rw [hb']
      refine Ev.congr (f := fun k => sloperef3_May.j0 k true (m : Int) ws) (fun k => ?_) (Ev.step (f := fun _ => some false) (fun k => ?_) (Ev.now _))
      · unfold sloperef3_May.f
        rw [if_neg (by omega), if_neg (by omega), h3, bne_iff_ne.mpr (by omega)]
      · rw [sloperef3_May.j0]
        rw [if_pos rfl]
  · have hb' : may n ws = false := may_false.2 fun h => hs ⟨h.1, h.2.1⟩
    rw [hb']
    refine Ev.congr (f := fun k => sloperef3_May.j0 k true n ws) (fun k => ?_) (Ev.step (f := fun _ => some false) (fun k => ?_) (Ev.now _))
    · unfold sloperef3_May.f
      by_cases h0 : n < 0
      · rw [if_pos h0]
      · rw [if_neg h0, if_pos (by omega)]
    · rw [sloperef3_May.j0]
      rw [if_pos rfl]
theorem mask_tb (n : Nat) (hn : n ≤ 4096) : ∃ m, bitset_mask.f (n : Int) = some m ∧ Wd m ∧ ∀ j, j < 64 → tb m j = (decide (n % 64 = 0) || decide (j < n % 64)) := by
  unfold bitset_mask.f
  rw [tmod_nat]
  by_cases h : n % 64 = 0
  · refine ⟨18446744073709551615, by rw [if_pos (by omega)], by unfold Wd; omega, fun j hj => ?_⟩
    have : tb 18446744073709551615 j = decide (j < 64) := by
      unfold tb
      rw [show (18446744073709551615 : Int).toNat = 2 ^ 64 - 1 by decide, Nat.testBit_two_pow_sub_one]
    rw [this]; simp [h, hj]
  · have h1 := one_shl (e := ((n % 64 : Nat) : Int)) (by omega) (by omega)
    rw [Int.toNat_natCast] at h1
    have hp : 0 < 2 ^ (n % 64) := Nat.two_pow_pos _
    have h2 : shl .u64 1 ((n % 64 : Nat) : Int) - 1 = ((2 ^ (n % 64) - 1 : Nat) : Int) := by rw [h1.1]; omega
    have h3 : Wd ((2 ^ (n % 64) - 1 : Nat) : Int) := by
      have := h1.2
      rw [h1.1] at this
      unfold Wd at this ⊢
      omega
    refine ⟨((2 ^ (n % 64) - 1 : Nat) : Int), ?_, h3, fun j hj => ?_⟩
    · rw [if_neg (by omega), if_pos (by omega), h2, wraps_u64 _ h3]
    · unfold tb
      rw [Int.toNat_natCast, Nat.testBit_two_pow_sub_one]
      simp [h]
theorem andNot_zero {x y : Int} (hx : Wd x) (hy : Wd y) : (Go.bits .andNot .u64 x y == 0) = true ↔ ∀ j, j < 64 → tb x j = true → tb y j = true := by
  rw [beq_iff_eq]
  constructor
  · intro h j hj hxj
    have h1 := tb_andNot hx hy j
    rw [h, tb_zero, hxj] at h1
    simpa using h1
  · intro h
    refine tb_ext (andNot_eq _ _).2 Wd.zero fun j hj => ?_
    rw [tb_andNot hx hy, tb_zero]
    cases h1 : tb x j
    · rfl
    · rw [h j hj h1]; rfl
theorem May_eq (n : Int) (ws : List Int) (hw : Wds ws) (hl : ws.length ≤ 9223372036854775807) : bitset_May.f n ws = some (may n ws) := by
  unfold bitset_May.f
  by_cases hs : 0 ≤ n ∧ n ≤ 4096
  · obtain ⟨m, rfl⟩ := Int.eq_ofNat_of_zero_le hs.1
    have hm : m ≤ 4096 := by omega
    rw [sized_yes hm, Option.bind_some, if_pos rfl, words_eq hm, Option.bind_some]
    by_cases hq : ws.length = (m + 63) / 64
    · rw [if_pos (by omega)]
      by_cases h0 : ws.length = 0
      · rw [if_pos (by omega)]
        congr 1
        exact (may_true.2 ⟨by omega, by omega, by simpa using hq, fun e he => hb_high (by omega)⟩).symm
      · obtain ⟨l, hl1⟩ : ∃ l, ws.length = l + 1 := ⟨ws.length - 1, by omega⟩
        have h4 : wrap64 ((ws.length : Int) - 1) = (l : Int) := by rw [w64_nat (by omega) (by omega)]; omega
        obtain ⟨mk, h5, h6, h7⟩ := mask_tb m hm
        rw [if_neg (by omega), h4, if_pos (by omega), if_pos (by omega), h5, Option.bind_some, rd_nat]
        congr 1
        apply may_of
        rw [andNot_zero (hw.getD _) h6]
        constructor
        · refine fun h => ⟨by omega, by omega, by simpa using hq, fun e he => ?_⟩
          rw [Int.toNat_natCast] at he
          rcases Nat.lt_or_ge e (64 * ws.length) with h8 | h8
          · unfold hb
            rw [show e / 64 = l by omega]
            cases h9 : tb (ws.getD l 0) (e % 64)
            · rfl
            · have h10 := h (e % 64) (by omega) h9
              rw [h7 _ (by omega), Bool.or_eq_true, decide_eq_true_eq, decide_eq_true_eq] at h10
              omega
          · exact hb_high h8
        · intro h j hj hx
          rw [h7 _ hj, Bool.or_eq_true, decide_eq_true_eq, decide_eq_true_eq]
          refine Classical.byContradiction fun h8 => ?_
          have h9 := h.2.2.2 (64 * l + j) (by rw [Int.toNat_natCast]; omega)
          unfold hb at h9
          rw [show (64 * l + j) / 64 = l by omega, show (64 * l + j) % 64 = j by omega, hx] at h9
          cases h9
    · rw [if_neg (by omega)]
      congr 1
      exact (may_false.2 fun h => hq (by simpa using h.2.2.1)).symm
  · rw [sized_no (by omega), Option.bind_some, if_neg (by simp)]
    congr 1
    exact (may_false.2 fun h => hs ⟨h.1, h.2.1⟩).symm
def TurnSays (n : Int) (ws : List Int) (e : Int) (yes : Bool) (r : Int × List Int × Int) : Prop :=
  (¬ MayP n ws ∧ r = (0, [], 61)) ∨ (MayP n ws ∧ (((e < 0 ∨ n ≤ e) ∧ r = (0, [], 62)) ∨ (0 ≤ e ∧ e < n ∧ ∃ vs, Is n.toNat (fun d => if d = e.toNat then yes else hb ws d) vs ∧ r = (n, vs, 0))))
theorem TurnSays.eq {n : Int} {ws : List Int} {e : Int} {yes : Bool} {r q : Int × List Int × Int} (h : TurnSays n ws e yes r) (k : TurnSays n ws e yes q) : r = q := by
  rcases h with ⟨h1, rfl⟩ | ⟨h1, ⟨h2, rfl⟩ | ⟨h2, h3, vs, h4, rfl⟩⟩ <;> rcases k with ⟨k1, rfl⟩ | ⟨k1, ⟨k2, rfl⟩ | ⟨k2, k3, us, k4, rfl⟩⟩
  · rfl
  · exact absurd k1 h1
  · exact absurd k1 h1
  · exact absurd h1 k1
  · rfl
  · omega
  · exact absurd h1 k1
  · omega
  · rw [h4.eq k4 (fun _ _ => rfl)]
theorem and_split (i x y v m : Nat) (hx : x < 2 ^ i) (hy : y < 2 ^ i) : (2 ^ i * v + x) &&& (2 ^ i * m + y) = 2 ^ i * (v &&& m) + (x &&& y) := by
  have hxy : x &&& y < 2 ^ i := Nat.and_lt_two_pow _ hy
  apply Nat.eq_of_testBit_eq
  intro j
  rw [Nat.testBit_and, Nat.testBit_two_pow_mul_add _ hx, Nat.testBit_two_pow_mul_add _ hy, Nat.testBit_two_pow_mul_add _ hxy]
  by_cases h : j < i
  · simp [h]
  · simp [h]
def grp : List Nat → List (Nat × Nat)
  | a :: b :: l => (a, b) :: grp l
  | _ => []
def halve (l : List Nat) : List Nat := (grp l).map (fun p => p.1 + p.2)
theorem halve_sum : ∀ (n : Nat) (l : List Nat), l.length = 2 * n → (halve l).sum = l.sum ∧ (halve l).length = n
  | 0, [], _ => ⟨rfl, rfl⟩
  | 0, _ :: _, h => by simp at h
  | n + 1, a :: b :: l, h => by
    obtain ⟨h1, h2⟩ := halve_sum n l (by simp at h; omega)
    have h3 : halve (a :: b :: l) = (a + b) :: halve l := rfl
    rw [h3, List.sum_cons, List.sum_cons, List.sum_cons, List.length_cons, h1, h2]
    exact ⟨by omega, rfl⟩
  | n + 1, [_], h => by simp at h; omega
  | n + 1, [], h => by simp at h
theorem halve_le {m : Nat} : ∀ (n : Nat) (l : List Nat), l.length = 2 * n → (∀ x ∈ l, x ≤ m) → ∀ x ∈ halve l, x ≤ 2 * m
  | 0, [], _, _ => by intro x hx; cases hx
  | 0, _ :: _, h, _ => by simp at h
  | n + 1, a :: b :: l, h, hm => by
    have h3 : halve (a :: b :: l) = (a + b) :: halve l := rfl
    rw [h3]
    intro x hx
    rcases List.mem_cons.1 hx with rfl | hx
    · have := hm a (by simp); have := hm b (by simp); omega
    · exact halve_le n l (by simp at h; omega) (fun y hy => hm y (by simp [hy])) x hx
  | n + 1, [_], h, _ => by simp at h; omega
  | n + 1, [], h, _ => by simp at h
def val2 : List Nat → Nat
  | [] => 0
  | d :: l => 2 * val2 l + d
def val4 : List Nat → Nat
  | [] => 0
  | d :: l => 4 * val4 l + d
def val16 : List Nat → Nat
  | [] => 0
  | d :: l => 16 * val16 l + d
def val256 : List Nat → Nat
  | [] => 0
  | d :: l => 256 * val256 l + d
def mask2 : Nat → Nat
  | 0 => 0
  | n + 1 => 4 * mask2 n + 1
theorem low2 (w m a b : Nat) (ha : a < 2) (hb : b < 2) : (4 * w + (2 * b + a)) &&& (4 * m + 1) = 4 * (w &&& m) + a := by
  have h := and_split 2 (2 * b + a) 1 w m (by omega) (by omega)
  have h2 : (2 * b + a) &&& 1 = a := by
    have := Nat.and_two_pow_sub_one_eq_mod (2 * b + a) 1
    rw [show 2 ^ 1 - 1 = 1 from rfl] at this
    rw [this]; omega
  rw [h2] at h
  exact h
def mask4 : Nat → Nat
  | 0 => 0
  | n + 1 => 16 * mask4 n + 3
theorem low4 (w m a b : Nat) (ha : a < 4) (hb : b < 4) : (16 * w + (4 * b + a)) &&& (16 * m + 3) = 16 * (w &&& m) + a := by
  have h := and_split 4 (4 * b + a) 3 w m (by omega) (by omega)
  have h2 : (4 * b + a) &&& 3 = a := by
    have := Nat.and_two_pow_sub_one_eq_mod (4 * b + a) 2
    rw [show 2 ^ 2 - 1 = 3 from rfl] at this
    rw [this]; omega
  rw [h2] at h
  exact h
def mask16 : Nat → Nat
  | 0 => 0
  | n + 1 => 256 * mask16 n + 15
theorem low16 (w m a b : Nat) (ha : a < 16) (hb : b < 16) : (256 * w + (16 * b + a)) &&& (256 * m + 15) = 256 * (w &&& m) + a := by
  have h := and_split 8 (16 * b + a) 15 w m (by omega) (by omega)
  have h2 : (16 * b + a) &&& 15 = a := by
    have := Nat.and_two_pow_sub_one_eq_mod (16 * b + a) 4
    rw [show 2 ^ 4 - 1 = 15 from rfl] at this
    rw [this]; omega
  rw [h2] at h
  exact h
theorem firsts2 : ∀ (n : Nat) (l : List Nat), l.length = 2 * n → (∀ x ∈ l, x < 2) → val2 l &&& mask2 n = val4 ((grp l).map Prod.fst)
  | 0, [], _, _ => rfl
  | 0, _ :: _, h, _ => by simp at h
  | n + 1, a :: b :: l, h, hm => by
    have h1 := firsts2 n l (by simp at h; omega) (fun y hy => hm y (by simp [hy]))
    have h2 := low2 (val2 l) (mask2 n) a b (hm a (by simp)) (hm b (by simp))
    have h3 : val2 (a :: b :: l) = 4 * val2 l + (2 * b + a) := by simp only [val2]; omega
    have h4 : val4 ((grp (a :: b :: l)).map Prod.fst) = 4 * val4 ((grp l).map Prod.fst) + a := rfl
    rw [h3, h4, mask2, h2, h1]
  | n + 1, [_], h, _ => by simp at h; omega
  | n + 1, [], h, _ => by simp at h
theorem seconds2 : ∀ (n : Nat) (l : List Nat), l.length = 2 * n → (∀ x ∈ l, x < 2) → ∀ c, c < 2 → (2 * val2 l + c) &&& mask2 (n + 1) = 4 * val4 ((grp l).map Prod.snd) + c
  | 0, [], _, _ => by
    intro c hc
    have h2 := low2 0 0 c 0 hc (by omega)
    simpa [val2, val4, mask2, grp] using h2
  | 0, _ :: _, h, _ => by simp at h
  | n + 1, a :: b :: l, h, hm => by
    intro c hc
    have h1 := seconds2 n l (by simp at h; omega) (fun y hy => hm y (by simp [hy])) b (hm b (by simp))
    have h2 := low2 (2 * val2 l + b) (mask2 (n + 1)) c a hc (hm a (by simp))
    have h3 : 2 * val2 (a :: b :: l) + c = 4 * (2 * val2 l + b) + (2 * a + c) := by simp only [val2]; omega
    have h4 : val4 ((grp (a :: b :: l)).map Prod.snd) = 4 * val4 ((grp l).map Prod.snd) + b := rfl
    rw [h3, h4, mask2, h2, h1]
  | n + 1, [_], h, _ => by simp at h; omega
  | n + 1, [], h, _ => by simp at h
theorem sums4 : ∀ l : List (Nat × Nat), val4 (l.map Prod.snd) + val4 (l.map Prod.fst) = val4 (l.map (fun p => p.1 + p.2))
  | [] => rfl
  | p :: l => by
    have := sums4 l
    simp only [List.map_cons, val4]
    omega
theorem both2 (n : Nat) (l : List Nat) (hl : l.length = 2 * n) (hm : ∀ x ∈ l, x < 2) : (val2 l / 2 &&& mask2 n) + (val2 l &&& mask2 n) = val4 (halve l) := by
  rw [firsts2 n l hl hm, halve, ← sums4]
  congr 1
  match n, l, hl, hm with
  | 0, [], _, _ => rfl
  | n + 1, a :: b :: l, hl, hm =>
    have h1 := seconds2 n l (by simp at hl; omega) (fun y hy => hm y (by simp [hy])) b (hm b (by simp))
    have ha := hm a (by simp)
    have h3 : val2 (a :: b :: l) / 2 = 2 * val2 l + b := by simp only [val2]; omega
    rw [h3, h1]; rfl
  | n + 1, [_], hl, _ => simp at hl; omega
theorem firsts4 : ∀ (n : Nat) (l : List Nat), l.length = 2 * n → (∀ x ∈ l, x < 4) → val4 l &&& mask4 n = val16 ((grp l).map Prod.fst)
  | 0, [], _, _ => rfl
  | 0, _ :: _, h, _ => by simp at h
  | n + 1, a :: b :: l, h, hm => by
    have h1 := firsts4 n l (by simp at h; omega) (fun y hy => hm y (by simp [hy]))
    have h2 := low4 (val4 l) (mask4 n) a b (hm a (by simp)) (hm b (by simp))
    have h3 : val4 (a :: b :: l) = 16 * val4 l + (4 * b + a) := by simp only [val4]; omega
    have h4 : val16 ((grp (a :: b :: l)).map Prod.fst) = 16 * val16 ((grp l).map Prod.fst) + a := rfl
    rw [h3, h4, mask4, h2, h1]
  | n + 1, [_], h, _ => by simp at h; omega
  | n + 1, [], h, _ => by simp at h
theorem seconds4 : ∀ (n : Nat) (l : List Nat), l.length = 2 * n → (∀ x ∈ l, x < 4) → ∀ c, c < 4 → (4 * val4 l + c) &&& mask4 (n + 1) = 16 * val16 ((grp l).map Prod.snd) + c
  | 0, [], _, _ => by
    intro c hc
    have h2 := low4 0 0 c 0 hc (by omega)
    simpa [val4, val16, mask4, grp] using h2
  | 0, _ :: _, h, _ => by simp at h
  | n + 1, a :: b :: l, h, hm => by
    intro c hc
    have h1 := seconds4 n l (by simp at h; omega) (fun y hy => hm y (by simp [hy])) b (hm b (by simp))
    have h2 := low4 (4 * val4 l + b) (mask4 (n + 1)) c a hc (hm a (by simp))
    have h3 : 4 * val4 (a :: b :: l) + c = 16 * (4 * val4 l + b) + (4 * a + c) := by simp only [val4]; omega
    have h4 : val16 ((grp (a :: b :: l)).map Prod.snd) = 16 * val16 ((grp l).map Prod.snd) + b := rfl
    rw [h3, h4, mask4, h2, h1]
  | n + 1, [_], h, _ => by simp at h; omega
  | n + 1, [], h, _ => by simp at h
theorem sums16 : ∀ l : List (Nat × Nat), val16 (l.map Prod.snd) + val16 (l.map Prod.fst) = val16 (l.map (fun p => p.1 + p.2))
  | [] => rfl
  | p :: l => by
    have := sums16 l
    simp only [List.map_cons, val16]
    omega
theorem both4 (n : Nat) (l : List Nat) (hl : l.length = 2 * n) (hm : ∀ x ∈ l, x < 4) : (val4 l / 4 &&& mask4 n) + (val4 l &&& mask4 n) = val16 (halve l) := by
  rw [firsts4 n l hl hm, halve, ← sums16]
  congr 1
  match n, l, hl, hm with
  | 0, [], _, _ => rfl
  | n + 1, a :: b :: l, hl, hm =>
    have h1 := seconds4 n l (by simp at hl; omega) (fun y hy => hm y (by simp [hy])) b (hm b (by simp))
    have ha := hm a (by simp)
    have h3 : val4 (a :: b :: l) / 4 = 4 * val4 l + b := by simp only [val4]; omega
    rw [h3, h1]; rfl
  | n + 1, [_], hl, _ => simp at hl; omega
theorem third : ∀ (n : Nat) (l : List Nat), l.length = 2 * n → (∀ x ∈ l, x ≤ 4) → val16 l % 16 ≤ 4 ∧ (val16 l / 16 + val16 l) &&& mask16 n = val256 (halve l)
  | 0, [], _, _ => ⟨by simp [val16], rfl⟩
  | 0, _ :: _, h, _ => by simp at h
  | n + 1, a :: b :: l, h, hm => by
    obtain ⟨h0, h1⟩ := third n l (by simp at h; omega) (fun y hy => hm y (by simp [hy]))
    have ha := hm a (by simp)
    have hb := hm b (by simp)
    have h5 : val16 (a :: b :: l) = 256 * val16 l + (16 * b + a) := by simp only [val16]; omega
    have h2 := low16 (val16 l / 16 + val16 l) (mask16 n) (a + b) (b + val16 l % 16) (by omega) (by omega)
    have h3 : val16 (a :: b :: l) / 16 + val16 (a :: b :: l) = 256 * (val16 l / 16 + val16 l) + (16 * (b + val16 l % 16) + (a + b)) := by
      rw [h5]
      clear h1 h2 h5
      generalize val16 l = v at h0 ⊢
      omega
    have h4 : val256 (halve (a :: b :: l)) = 256 * val256 (halve l) + (a + b) := rfl
    refine ⟨by rw [h5]; omega, ?_⟩
    rw [h3, h4, mask16, h2, h1]
  | n + 1, [_], h, _ => by simp at h; omega
  | n + 1, [], h, _ => by simp at h
def bitl : Nat → Nat → List Nat
  | 0, _ => []
  | n + 1, x => x % 2 :: bitl n (x / 2)
theorem bitl_len : ∀ n x, (bitl n x).length = n
  | 0, _ => rfl
  | n + 1, x => by simp [bitl, bitl_len n]
theorem bitl_lt : ∀ n x, ∀ d ∈ bitl n x, d < 2
  | 0, _ => by intro d hd; cases hd
  | n + 1, x => by
    intro d hd
    rcases List.mem_cons.1 hd with rfl | hd
    · omega
    · exact bitl_lt n _ d hd
theorem bitl_val : ∀ n x, val2 (bitl n x) = x % 2 ^ n
  | 0, x => by simp [bitl, val2, Nat.mod_one]
  | n + 1, x => by
    have h := bitl_val n (x / 2)
    simp only [bitl, val2, h]
    rw [Nat.pow_succ, Nat.mul_comm (2 ^ n) 2, Nat.mod_mul]
    omega
def pc (x : Nat) : Nat := (bitl 64 x).sum
theorem pc_bits (x : Nat) : pc x = ((List.range 64).map (fun j => (x.testBit j).toNat)).sum := by
  have key : ∀ n x, bitl n x = (List.range n).map (fun j => (Nat.testBit x j).toNat) := by
    intro n
    induction n with
    | zero => intro x; rfl
    | succ n ih =>
      intro x
      rw [bitl, ih, List.range_succ_eq_map, List.map_cons, List.map_map]
      congr 1
      · rw [Nat.testBit_zero]
        rcases Nat.mod_two_eq_zero_or_one x with h | h <;> simp [h]
      · apply List.map_congr_left
        intro j _
        simp only [Function.comp]
        rw [Nat.testBit_succ]
  unfold pc
  rw [key]
theorem eight : ∀ l : List Nat, l.length = 8 → (∀ x ∈ l, x ≤ 8) → ∀ a4 a5 a6 : Nat, a4 = val256 l + val256 l / 256 → a5 = a4 + a4 / 65536 → a6 = a5 + a5 / 4294967296 → a4 < 2 ^ 63 ∧ a5 < 2 ^ 63 ∧ a6 < 2 ^ 63 ∧ a6 % 128 = l.sum := by
  intro l hl hm a4 a5 a6 h4 h5 h6
  match l, hl, hm with
  | [e0, e1, e2, e3, e4, e5, e6, e7], _, hm =>
    have g0 := hm e0 (by simp)
    have g1 := hm e1 (by simp)
    have g2 := hm e2 (by simp)
    have g3 := hm e3 (by simp)
    have g4 := hm e4 (by simp)
    have g5 := hm e5 (by simp)
    have g6 := hm e6 (by simp)
    have g7 := hm e7 (by simp)
    clear hm
    simp only [val256] at h4
    simp only [List.sum_cons, List.sum_nil]
    have k4 : a4 = (e0 + e1) + 256 * (e1 + e2) + 65536 * (e2 + e3) + 16777216 * (e3 + e4) + 4294967296 * (e4 + e5) + 1099511627776 * (e5 + e6) + 281474976710656 * (e6 + e7) + 72057594037927936 * e7 := by omega
    clear h4
    have k5 : a5 = (e0 + e1 + e2 + e3) + 256 * (e1 + e2 + e3 + e4) + 65536 * (e2 + e3 + e4 + e5) + 16777216 * (e3 + e4 + e5 + e6) + 4294967296 * (e4 + e5 + e6 + e7) + 1099511627776 * (e5 + e6 + e7) + 281474976710656 * (e6 + e7) + 72057594037927936 * e7 := by omega
    have k6 : a6 = (e0 + e1 + e2 + e3 + e4 + e5 + e6 + e7) + 256 * (e1 + e2 + e3 + e4 + e5 + e6 + e7) + 65536 * (e2 + e3 + e4 + e5 + e6 + e7) + 16777216 * (e3 + e4 + e5 + e6 + e7) + 4294967296 * (e4 + e5 + e6 + e7) + 1099511627776 * (e5 + e6 + e7) + 281474976710656 * (e6 + e7) + 72057594037927936 * e7 := by
      clear k4 h5
      omega
    clear h5 h6
    refine ⟨by omega, by omega, by omega, ?_⟩
    clear k4 k5
    omega
theorem and_nat (a b : Nat) (ha : a < 2 ^ 64) (hb : b < 2 ^ 64) : Go.bits .and .u64 (a : Int) (b : Int) = ((a &&& b : Nat) : Int) := by
  rw [(and_eq _ _).1, BitVec.toNat_and]
  congr 1
  have h1 : (BitVec.ofInt 64 (a : Int)).toNat = a := by rw [BitVec.toNat_ofInt]; omega
  have h2 : (BitVec.ofInt 64 (b : Int)).toNat = b := by rw [BitVec.toNat_ofInt]; omega
  rw [h1, h2]
theorem wrap_nat (a : Nat) (ha : a < 2 ^ 64) : IntKind.u64.wrap (a : Int) = (a : Int) := wraps_u64 _ (Wd.of ha)
theorem and127 (a : Nat) (ha : a < 2 ^ 63) : Go.bits .and .i64 (a : Int) 127 = ((a % 128 : Nat) : Int) := by
  have h0 : Go.bits .and .i64 (a : Int) 127 = IntKind.i64.wrap ((BitVec.ofInt 64 (a : Int) &&& BitVec.ofInt 64 127).toNat : Int) := rfl
  have h1 : (BitVec.ofInt 64 (a : Int)).toNat = a := by rw [BitVec.toNat_ofInt]; omega
  have h2 : (BitVec.ofInt 64 127).toNat = 127 := rfl
  have h3 := Nat.and_two_pow_sub_one_eq_mod a 7
  rw [h0, BitVec.toNat_and, h1, h2, show (127 : Nat) = 2 ^ 7 - 1 from rfl, h3]
  simp only [IntKind.wrap, IntKind.bits, IntKind.signed]
  have : a % 2 ^ 7 < 128 := Nat.mod_lt _ (by decide)
  rw [show a % 2 ^ 7 = a % 128 from rfl] at this ⊢
  generalize a % 128 = z at this ⊢
  simp
  omega
theorem ones_eq {x : Int} (hx : Wd x) : bits_OnesCount64.f x = some (pc x.toNat : Int) := by
  obtain ⟨hx1, hx2⟩ := hx.nat
  obtain ⟨n, hn⟩ : ∃ n, x.toNat = n := ⟨_, rfl⟩
  rw [hn] at hx1 hx2
  rw [hn, ← hx2]
  clear hn hx2 hx
  have l0 := bitl_len 64 n
  have b0 := bitl_lt 64 n
  have v0 : val2 (bitl 64 n) = n := by rw [bitl_val]; exact Nat.mod_eq_of_lt hx1
  obtain ⟨s1, l1⟩ := halve_sum 32 _ l0
  have b1 := halve_le (m := 1) 32 _ l0 (fun x hx => by have := b0 x hx; omega)
  obtain ⟨s2, l2⟩ := halve_sum 16 _ l1
  have b2 := halve_le (m := 2) 16 _ l1 b1
  obtain ⟨s3, l3⟩ := halve_sum 8 _ l2
  have b3 := halve_le (m := 4) 8 _ l2 b2
  have e1 := both2 32 _ l0 b0
  have e2 := both4 16 _ l1 (fun x hx => by have := b1 x hx; omega)
  have e3 := (third 8 _ l2 b2).2
  rw [show mask2 32 = 6148914691236517205 from rfl, v0] at e1
  rw [show mask4 16 = 3689348814741910323 from rfl] at e2
  rw [show mask16 8 = 1085102592571150095 from rfl] at e3
  obtain ⟨y1, hy1⟩ : ∃ y, val4 (halve (bitl 64 n)) = y := ⟨_, rfl⟩
  obtain ⟨y2, hy2⟩ : ∃ y, val16 (halve (halve (bitl 64 n))) = y := ⟨_, rfl⟩
  obtain ⟨y3, hy3⟩ : ∃ y, val256 (halve (halve (halve (bitl 64 n)))) = y := ⟨_, rfl⟩
  rw [hy1] at e1 e2
  rw [hy2] at e2 e3
  rw [hy3] at e3
  have p1 : n / 2 &&& 6148914691236517205 ≤ 6148914691236517205 := Nat.and_le_right
  have p2 : n &&& 6148914691236517205 ≤ 6148914691236517205 := Nat.and_le_right
  have p3 : y1 / 4 &&& 3689348814741910323 ≤ 3689348814741910323 := Nat.and_le_right
  have p4 : y1 &&& 3689348814741910323 ≤ 3689348814741910323 := Nat.and_le_right
  have p5 : (y2 / 16 + y2) &&& 1085102592571150095 ≤ 1085102592571150095 := Nat.and_le_right
  have z1 : y1 < 2 ^ 64 := by omega
  have z2 : y2 < 8 * 2 ^ 60 := by omega
  obtain ⟨q4, q5, q6, q7⟩ := eight _ l3 b3 _ _ _ rfl rfl rfl
  rw [hy3, s3, s2, s1] at q7
  rw [hy3] at q4 q5 q6
  have q8 : y3 < 2 ^ 63 := by omega
  clear b0 b1 b2 b3 l0 l1 l2 l3 s1 s2 s3 hy1 hy2 hy3 v0
  have f1 : IntKind.u64.wrap (Go.bits .and .u64 ((n : Int) / 2) 6148914691236517205 + Go.bits .and .u64 (n : Int) 6148914691236517205) = (y1 : Int) := by
    have a1 := and_nat (n / 2) 6148914691236517205 (by omega) (by omega)
    have a2 := and_nat n 6148914691236517205 hx1 (by omega)
    rw [show ((n / 2 : Nat) : Int) = (n : Int) / 2 by omega] at a1
    have : (((6148914691236517205 : Nat)) : Int) = 6148914691236517205 := rfl
    rw [this] at a1 a2
    rw [a1, a2, ← Int.natCast_add, e1, wrap_nat _ z1]
  have f2 : IntKind.u64.wrap (Go.bits .and .u64 ((y1 : Int) / 4) 3689348814741910323 + Go.bits .and .u64 (y1 : Int) 3689348814741910323) = (y2 : Int) := by
    have a1 := and_nat (y1 / 4) 3689348814741910323 (by omega) (by omega)
    have a2 := and_nat y1 3689348814741910323 z1 (by omega)
    rw [show ((y1 / 4 : Nat) : Int) = (y1 : Int) / 4 by omega] at a1
    have : (((3689348814741910323 : Nat)) : Int) = 3689348814741910323 := rfl
    rw [this] at a1 a2
    rw [a1, a2, ← Int.natCast_add, e2, wrap_nat _ (by omega)]
  have f3 : Go.bits .and .u64 (IntKind.u64.wrap ((y2 : Int) / 16 + (y2 : Int))) 1085102592571150095 = (y3 : Int) := by
    have a1 := and_nat (y2 / 16 + y2) 1085102592571150095 (by omega) (by omega)
    rw [show ((y2 / 16 + y2 : Nat) : Int) = (y2 : Int) / 16 + (y2 : Int) by omega] at a1
    have : (((1085102592571150095 : Nat)) : Int) = 1085102592571150095 := rfl
    rw [this] at a1
    have w1 : IntKind.u64.wrap ((y2 : Int) / 16 + (y2 : Int)) = (y2 : Int) / 16 + (y2 : Int) := wraps_u64 _ (by unfold Wd; omega)
    rw [w1, a1, e3]
  have f4 : IntKind.u64.wrap ((y3 : Int) + (y3 : Int) / 256) = ((y3 + y3 / 256 : Nat) : Int) := by
    rw [wraps_u64 _ (by unfold Wd; omega)]; omega
  unfold bits_OnesCount64.f
  rw [f1, f2, f3, f4]
  obtain ⟨y4, hy4⟩ : ∃ y, y3 + y3 / 256 = y := ⟨_, rfl⟩
  rw [hy4] at q4 q5 q6 q7 ⊢
  have f5 : IntKind.u64.wrap ((y4 : Int) + (y4 : Int) / 65536) = ((y4 + y4 / 65536 : Nat) : Int) := by
    rw [wraps_u64 _ (by unfold Wd; omega)]; omega
  rw [f5]
  obtain ⟨y5, hy5⟩ : ∃ y, y4 + y4 / 65536 = y := ⟨_, rfl⟩
  rw [hy5] at q5 q6 q7 ⊢
  have f6 : IntKind.u64.wrap ((y5 : Int) + (y5 : Int) / 4294967296) = ((y5 + y5 / 4294967296 : Nat) : Int) := by
    rw [wraps_u64 _ (by unfold Wd; omega)]; omega
  rw [f6]
  obtain ⟨y6, hy6⟩ : ∃ y, y5 + y5 / 4294967296 = y := ⟨_, rfl⟩
  rw [hy6] at q6 q7 ⊢
  rw [w64_nat (by omega) (by omega), and127 _ q6, q7]
  rfl
def cnt (ws : List Int) : Nat := (ws.map (fun x => pc x.toNat)).sum
theorem cnt_cons (x : Int) (l : List Int) : cnt (x :: l) = pc x.toNat + cnt l := by unfold cnt; rw [List.map_cons, List.sum_cons]
theorem sum_le (f : Nat → Nat) (h : ∀ j, f j ≤ 1) : ∀ n, ((List.range n).map f).sum ≤ n
  | 0 => by simp
  | n + 1 => by
    rw [List.range_succ, List.map_append, List.sum_append]
    have := sum_le f h n
    have := h n
    simp only [List.map_cons, List.map_nil, List.sum_cons, List.sum_nil]
    omega
theorem pc_le (x : Nat) : pc x ≤ 64 := by
  rw [pc_bits]
  exact sum_le _ (fun j => by cases Nat.testBit x j <;> simp) 64
theorem cnt_le : ∀ ws : List Int, cnt ws ≤ 64 * ws.length
  | [] => by simp [cnt]
  | x :: l => by
    have h1 := cnt_le l
    have h2 := pc_le x.toNat
    have h3 := cnt_cons x l
    rw [h3, List.length_cons]
    omega
theorem sum_zero (l : List Nat) : l.sum = 0 ↔ ∀ x ∈ l, x = 0 := by
  induction l with
  | nil => simp
  | cons a l ih =>
    rw [List.sum_cons]
    constructor
    · intro h x hx
      rcases List.mem_cons.1 hx with rfl | hx
      · omega
      · exact ih.1 (by omega) x hx
    · intro h
      have h1 := h a (by simp)
      have h2 := ih.2 (fun x hx => h x (by simp [hx]))
      omega
theorem pc_zero {x : Int} (hx : Wd x) : pc x.toNat = 0 ↔ ∀ j, tb x j = false := by
  rw [pc_bits, sum_zero]
  constructor
  · intro h j
    rcases Nat.lt_or_ge j 64 with hj | hj
    · have := h _ (List.mem_map.2 ⟨j, List.mem_range.2 hj, rfl⟩)
      unfold tb
      cases h2 : x.toNat.testBit j
      · rfl
      · rw [h2] at this; simp at this
    · exact tb_high hx hj
  · intro h y hy
    obtain ⟨j, _, rfl⟩ := List.mem_map.1 hy
    have := h j
    unfold tb at this
    rw [this]; rfl
def TwoSays (f : Bool → Bool → Bool) (a : Int) (la : List Int) (b : Int) (lb : List Int) (r : Int × List Int × Int) : Prop :=
  (¬ (MayP a la ∧ MayP b lb) ∧ r = (0, [], 61)) ∨ (MayP a la ∧ MayP b lb ∧ ((a ≠ b ∧ r = (0, [], 60)) ∨ (a = b ∧ ∃ vs, Is a.toNat (fun d => f (hb la d) (hb lb d)) vs ∧ r = (a, vs, 0))))
theorem TwoSays.eq {f : Bool → Bool → Bool} {a b : Int} {la lb : List Int} {r q : Int × List Int × Int} (h : TwoSays f a la b lb r) (k : TwoSays f a la b lb q) : r = q := by
  rcases h with ⟨h1, rfl⟩ | ⟨h1, h2, ⟨h3, rfl⟩ | ⟨h3, vs, h4, rfl⟩⟩ <;> rcases k with ⟨k1, rfl⟩ | ⟨k1, k2, ⟨k3, rfl⟩ | ⟨k3, us, k4, rfl⟩⟩
  · rfl
  · exact absurd ⟨k1, k2⟩ h1
  · exact absurd ⟨k1, k2⟩ h1
  · exact absurd ⟨h1, h2⟩ k1
  · rfl
  · exact absurd k3 h3
  · exact absurd ⟨h1, h2⟩ k1
  · exact absurd h3 k3
  · rw [h4.eq k4 (fun _ _ => rfl)]
theorem TwoSays.bound {f : Bool → Bool → Bool} {a b : Int} {la lb : List Int} {s : Int} {vs : List Int} {c : Int} (h : TwoSays f a la b lb (s, vs, c)) : vs.length ≤ 9223372036854775807 := by
  rcases h with ⟨_, e⟩ | ⟨h1, _, ⟨_, e⟩ | ⟨_, us, h4, e⟩⟩
  · cases e; simp
  · cases e; simp
  · cases e; have := h1.2.1; rw [h4.len]; omega
theorem sum_countP (p : Nat → Bool) : ∀ l : List Nat, (l.map (fun j => (p j).toNat)).sum = l.countP p
  | [] => rfl
  | a :: l => by
    rw [List.map_cons, List.sum_cons, List.countP_cons, sum_countP p l]
    cases p a <;> simp
    omega
theorem pc_countP (x : Int) : pc x.toNat = (List.range 64).countP (tb x) := by
  rw [pc_bits, ← sum_countP]
  rfl
theorem hb_cons (x : Int) (l : List Int) (e : Nat) : hb (x :: l) (64 + e) = hb l e := by
  unfold hb
  rw [show (64 + e) / 64 = e / 64 + 1 by omega, show (64 + e) % 64 = e % 64 by omega]
  rfl
theorem hb_head (x : Int) (l : List Int) {e : Nat} (h : e < 64) : hb (x :: l) e = tb x e := by
  unfold hb
  rw [show e / 64 = 0 by omega, show e % 64 = e by omega]
  rfl
theorem cnt_countP : ∀ ws : List Int, cnt ws = (List.range (64 * ws.length)).countP (hb ws)
  | [] => rfl
  | x :: l => by
    have h1 : (List.range 64).countP (tb x) = (List.range 64).countP (hb (x :: l)) := by
      apply List.countP_congr
      intro e he
      rw [hb_head x l (List.mem_range.1 he)]
    have h2 : (List.range (64 * l.length)).countP (hb l) = (List.range (64 * l.length)).countP (hb (x :: l) ∘ fun e => 64 + e) := by
      apply List.countP_congr
      intro e _
      simp only [Function.comp]
      rw [hb_cons]
    rw [cnt_cons, pc_countP, cnt_countP l, List.length_cons, show 64 * (l.length + 1) = 64 + 64 * l.length by omega, List.range_add, List.countP_append, List.countP_map, h1, h2]
theorem Is.cnt {n : Nat} {p : Nat → Bool} {ws : List Int} (h : Is n p ws) : cnt ws = (List.range n).countP p := by
  have hl := h.len
  rw [cnt_countP, show 64 * ws.length = n + (64 * ws.length - n) by omega, List.range_add, List.countP_append]
  have h1 : ((List.range (64 * ws.length - n)).map (n + ·)).countP (hb ws) = 0 := by
    rw [List.countP_eq_zero]
    intro e he
    obtain ⟨d, _, rfl⟩ := List.mem_map.1 he
    have h2 : ¬ n + d < n := by omega
    rw [h.has]; simp [h2]
  rw [h1, Nat.add_zero]
  apply List.countP_congr
  intro e he
  rw [h.has]
  simp [List.mem_range.1 he]
def MayS (x : S24) : Prop := MayP x.f0 x.f1
def Goods (l : List S24) : Prop := ∀ x ∈ l, Wds x.f1 ∧ x.f1.length ≤ 9223372036854775807
def FitSays (n : Int) (l : List S24) (r : Int) : Prop :=
  (r = 61 ∧ ∃ x ∈ l, ¬ MayS x) ∨ (r = 60 ∧ (∀ x ∈ l, MayS x) ∧ ((n < 0 ∨ 4096 < n) ∨ ∃ x ∈ l, x.f0 ≠ n)) ∨ (r = 0 ∧ (∀ x ∈ l, MayS x) ∧ (∀ x ∈ l, x.f0 = n) ∧ 0 ≤ n ∧ n ≤ 4096)
theorem FitSays.eq {n : Int} {l : List S24} {r q : Int} (h : FitSays n l r) (k : FitSays n l q) : r = q := by
  rcases h with ⟨rfl, x, h1, h2⟩ | ⟨rfl, h1, h2⟩ | ⟨rfl, h1, h2, h3, h4⟩ <;> rcases k with ⟨rfl, y, k1, k2⟩ | ⟨rfl, k1, k2⟩ | ⟨rfl, k1, k2, k3, k4⟩
  · rfl
  · exact absurd (k1 x h1) h2
  · exact absurd (k1 x h1) h2
  · exact absurd (h1 y k1) k2
  · rfl
  · rcases h2 with h2 | ⟨x, h2, h3⟩
    · omega
    · exact absurd (k2 x h2) h3
  · exact absurd (h1 y k1) k2
  · rcases k2 with k2 | ⟨x, k2, k3⟩
    · omega
    · exact absurd (h2 x k2) k3
  · rfl
def TabP (n : Int) (l : List S24) : Prop := 0 ≤ n ∧ n ≤ 4096 ∧ l.length ≤ 4096 ∧ ∀ x ∈ l, MayS x ∧ x.f0 = n
def Lt (n : Nat) (p q : Nat → Bool) : Prop := ∃ e, e < n ∧ p e = false ∧ q e = true ∧ ∀ d, e < d → d < n → p d = q d
theorem Lt.trans {n : Nat} {p q r : Nat → Bool} (h : Lt n p q) (k : Lt n q r) : Lt n p r := by
  obtain ⟨e, h1, h2, h3, h4⟩ := h
  obtain ⟨f, k1, k2, k3, k4⟩ := k
  rcases Nat.lt_trichotomy e f with hef | rfl | hef
  · exact ⟨f, k1, (h4 f hef k1).trans k2, k3, fun d h5 h6 => (h4 d (by omega) h6).trans (k4 d h5 h6)⟩
  · rw [h3] at k2; cases k2
  · exact ⟨e, h1, h2, (k4 e hef h1).symm.trans h3, fun d h5 h6 => (h4 d h5 h6).trans (k4 d (by omega) h6)⟩
theorem Lt.congr {n : Nat} {p q p' q' : Nat → Bool} (h : Lt n p q) (hp : ∀ d, d < n → p d = p' d) (hq : ∀ d, d < n → q d = q' d) : Lt n p' q' := by
  obtain ⟨e, h1, h2, h3, h4⟩ := h
  exact ⟨e, h1, (hp e h1).symm.trans h2, (hq e h1).symm.trans h3, fun d h5 h6 => (hp d h6).symm.trans ((h4 d h5 h6).trans (hq d h6))⟩
theorem alive_ev : Ev (fun k => slopelaw3_alive.f k) true :=
  Ev.of (k := 20) (fun k => slopelaw3_alive.mono k) (by decide +kernel)
theorem same_sets (n : Int) (l : List Int) (hb : l.length ≤ 9223372036854775807) : ∃ k, slopelaw3_same.f k n l n l = some true := by
  have key : ∀ d i : Nat, i + d = l.length → ∃ k, slopelaw3_same.l0 k (i : Int) n l n l = some true := by
    intro d
    induction d with
    | zero => intro i h; exact ⟨1, by simp only [slopelaw3_same.l0]; rw [if_neg (by omega)]⟩
    | succ d ih =>
      intro i h
      obtain ⟨k, hk⟩ := ih (i + 1) (by omega)
      refine ⟨k + 1, ?_⟩
      simp only [slopelaw3_same.l0]
      rw [if_pos (by omega), if_pos (by omega), if_pos (by omega)]
      rw [show wrap64 ((i : Int) + 1) = ((i + 1 : Nat) : Int) by unfold wrap64; omega]
      simpa using hk
  obtain ⟨k, hk⟩ := key l.length 0 (by omega)
  refine ⟨k + 1, ?_⟩
  unfold slopelaw3_same.f
  rw [if_pos rfl]
  simp only [slopelaw3_same.j0]
  rw [if_neg (by simp)]
  exact hk
theorem same_ev (n : Int) (l : List Int) (hb : l.length ≤ 9223372036854775807) : Ev (fun k => slopelaw3_same.f k n l n l) true := by
  obtain ⟨k, hk⟩ := same_sets n l hb
  exact Ev.of (fun k => slopelaw3_same.mono _ _ _ _ k) hk
end Go.Proofs.YtjmkhdhffmlhiaaDoor.PAll
end
section
namespace Go.Proofs.YtjmkhdhffmlhiaaDoor.PAll
open Go.ChangeShapes Go.WideShapes Go.RowKit Go.Proofs.YtjmkhdhffmlhiaaDoorW.PrintWords Go.Proofs.YtjmkhdhffmlhiaaDoorW.PrintMore
def good26 (x : S24) : Prop := (Lit.int .i64 x.f0).wf = true ∧ Wds x.f1 ∧ x.f1.length * 8 ≤ 140737488351232
theorem wf_wd {x : Int} (h : (Lit.int .u64 x).wf = true) : Wd x := by
  simp [Lit.wf, IntKind.min, IntKind.max, IntKind.signed, IntKind.bits] at h
  unfold Wd
  omega
theorem reads26 : Reads Tryd.prog 24 k24 good26 := by
  have hi : Reads Tryd.prog 3 (Kd.int .i64) _ := Reads.int Tryd.underlying3 (by kernel_rfl)
  have hu : Reads Tryd.prog 87 (Kd.int .u64) _ := Reads.int Tryd.underlying87 (by kernel_rfl)
  have hs := Reads.slice Tryd.underlying22 (by kernel_rfl) hu
  have hp := Reads.struct2 Tryd.underlying24 hi hs rfl (by kernel_rfl) (by kernel_rfl)
  have h := Reads.iso hp (fun x : S24 => (x.f0, x.f1)) (fun p => ⟨p.1, p.2⟩) (fun _ => rfl)
  have hb : Tryd.prog.bytesOf 87 = 8 := by kernel_rfl
  refine ⟨h.sz, fun hf hw => ?_⟩
  obtain ⟨a, h1, h2, h3, h4⟩ := h.opens hf hw
  rw [hb] at h4
  exact ⟨a, h1, h2, fun x hx => wf_wd (h3 x hx), h4⟩
set_option maxRecDepth 100000
section
variable {H : Type} {enc : TypeId × Value → H} {W : World} {r : Reach} {base : Nat} {spare : Nat → Bool} {held : Bool} {v : Value} {y : DataW H} {p : List MemPlace} {ts : List TypeId} {ds : List (DataW H)} {j : Nat}
theorem open_set (hval : Value.okWide Tryd.prog W r base 24 v) (h : DataW.Trod enc Tryd.prog W 0 spare held 24 v y p) (hsz : (DataW.weightsEach Tryd.prog ts ds).all (· ≤ reachBytes) = true) (ht : ts[j]? = some 24) (hd : ds[j]? = some y) :
    ∃ n A c l, v = .agg #[.int .i64 n, .slice A l.length c] ∧ l.length ≤ c ∧ Kd.C (Kd.int .u64) W A l.length l ∧ good26 ⟨n, l⟩ := by
  obtain ⟨a, h1, h2⟩ := reads26.param h hsz ht hd
  obtain ⟨cs, rfl, _⟩ := okWide_struct Tryd.underlying24 hval
  obtain ⟨A, c, e, hl, hc⟩ := k24_open h1
  have e2 : cs = #[.int .i64 a.f0, .slice A a.f1.length c] := by
    apply Array.toList_inj.1
    simpa [Value.cells] using e
  exact ⟨a.f0, A, c, a.f1, by rw [e2], hl, hc, h2⟩
end
theorem Goods.of {l : List S24} (h : ∀ x ∈ l, good26 x) : Goods l := fun x hx => ⟨(h x hx).2.1, by have := (h x hx).2.2; omega⟩
end Go.Proofs.YtjmkhdhffmlhiaaDoor.PAll
end
section
namespace Go.Proofs.YtjmkhdhffmlhiaaDoor.PAll
open Go.RowKit Go.Proofs.YtjmkhdhffmlhiaaDoorW.PrintWords Go.Proofs.YtjmkhdhffmlhiaaDoorW.PrintLast Go.Proofs.YtjmkhdhffmlhiaaDoorW.PrintMore
attribute [local go_sem] max2_int min2_int max_two min_two max_three min_three max_four min_four w64_u8 w64_mod256   -- for this text's walks alone
set_option linter.unusedVariables false
set_option linter.unusedSimpArgs false
def bitset_Rank.l0 : Nat → Int → Int → List Int → Int → Int → Int → List Int → Option (Int)
  | 0, _, _, _, _, _, _, _ => none
  | k + 1, x1, x5, x20, x21, x22, x102000, x102001 => if x22 < x21 then (if 0 ≤ x22 then (if x22 < (x20.length : Int) then ((bits_OnesCount64.f (rd x20 x22)).bind fun t105 => (bitset_Rank.l0 k x1 (wrap64 (x5 + t105)) x20 x21 (wrap64 (x22 + 1)) x102000 x102001)) else (none)) else (none)) else (if (Int.tmod x1 64) = 0 then (some x5) else (if 0 ≤ (wrap64 (Int.tdiv x1 64)) then (if (wrap64 (Int.tdiv x1 64)) < (x102001.length : Int) then (if 0 ≤ (Int.tmod x1 64) then ((bits_OnesCount64.f (Go.bits .and .u64 (rd x102001 (wrap64 (Int.tdiv x1 64))) (IntKind.u64.wrap ((shl .u64 1 (Int.tmod x1 64)) - 1)))).bind fun t107 => (some (wrap64 (x5 + t107)))) else (none)) else (none)) else (none)))
def bitset_Rank.f (k : Nat) (a0_0 : Int) (l0_1 : List Int) (a1 : Int) : Option (Int) := (bitset_May.f a0_0 l0_1).bind fun t102 => (if t102 = true then (if 0 ≤ (wrap64 (Int.tdiv (mn (mx a1 0) a0_0) 64)) then (if (wrap64 (Int.tdiv (mn (mx a1 0) a0_0) 64)) ≤ (l0_1.length : Int) then (bitset_Rank.l0 k (mn (mx a1 0) a0_0) 0 (l0_1.take ((wrap64 (Int.tdiv (mn (mx a1 0) a0_0) 64)) : Int).toNat) ((l0_1.take ((wrap64 (Int.tdiv (mn (mx a1 0) a0_0) 64)) : Int).toNat).length : Int) 0 a0_0 l0_1) else (none)) else (none)) else (some 0))
set_option maxHeartbeats 8000000 in
set_option maxRecDepth 100000 in
theorem bitset_Rank.calls (k : Nat) (a0_0 : Int) (A0_1 : Option Addr) (c0_1 : Nat) (l0_1 : List Int) (a1 : Int) (r : Int) (w : World) (hr0_1 : Kd.C (Kd.int .u64) w A0_1 l0_1.length l0_1) (hc0_1 : l0_1.length ≤ c0_1) (h : bitset_Rank.f k a0_0 l0_1 a1 = some r) :
    Calls Tryd.prog 25 #[.agg #[.int .i64 a0_0, .slice A0_1 l0_1.length c0_1], .int .i64 a1] w fun e w' => e = .returned (.int .i64 r) ∧ Below w.heap.size w w' := by
  have hu24 := Tryd.underlying24
  have HR0_1 := Aside0.mk hr0_1
  have HC0_1 := Aside0.mk hc0_1
  clear hr0_1 hc0_1
  have HB := Aside0.mk (Below.refl w.heap.size w)
  have H : ((bitset_May.f a0_0 l0_1).bind fun t102 => (if t102 = true then (if 0 ≤ (wrap64 (Int.tdiv (mn (mx a1 0) a0_0) 64)) then (if (wrap64 (Int.tdiv (mn (mx a1 0) a0_0) 64)) ≤ (l0_1.length : Int) then (bitset_Rank.l0 k (mn (mx a1 0) a0_0) 0 (l0_1.take ((wrap64 (Int.tdiv (mn (mx a1 0) a0_0) 64)) : Int).toNat) ((l0_1.take ((wrap64 (Int.tdiv (mn (mx a1 0) a0_0) 64)) : Int).toNat).length : Int) 0 a0_0 l0_1) else (none)) else (none)) else (some 0))) = some r := h
  clear h
  replace H := Option.bind_eq_some_iff.mp H
  obtain ⟨t102, A30, H⟩ := H
  replace H : (if t102 = true then (if 0 ≤ (wrap64 (Int.tdiv (mn (mx a1 0) a0_0) 64)) then (if (wrap64 (Int.tdiv (mn (mx a1 0) a0_0) 64)) ≤ (l0_1.length : Int) then (bitset_Rank.l0 k (mn (mx a1 0) a0_0) 0 (l0_1.take ((wrap64 (Int.tdiv (mn (mx a1 0) a0_0) 64)) : Int).toNat) ((l0_1.take ((wrap64 (Int.tdiv (mn (mx a1 0) a0_0) 64)) : Int).toNat).length : Int) 0 a0_0 l0_1) else (none)) else (none)) else (some 0)) = some r := H
  have A3 := Aside0.mk A30
  clear A30
  by_cases c4 : t102 = true
  · subst c4
    have H1 : (if 0 ≤ (wrap64 (Int.tdiv (mn (mx a1 0) a0_0) 64)) then (if (wrap64 (Int.tdiv (mn (mx a1 0) a0_0) 64)) ≤ (l0_1.length : Int) then (bitset_Rank.l0 k (mn (mx a1 0) a0_0) 0 (l0_1.take ((wrap64 (Int.tdiv (mn (mx a1 0) a0_0) 64)) : Int).toNat) ((l0_1.take ((wrap64 (Int.tdiv (mn (mx a1 0) a0_0) 64)) : Int).toNat).length : Int) 0 a0_0 l0_1) else (none)) else (none)) = some r := by rw [if_pos rfl] at H; exact H
    clear H
    have H := H1
    clear H1
    obtain ⟨ji5, hji5⟩ : ∃ j_ : Int, (mx a1 0) = j_ := ⟨_, rfl⟩
    replace H : (if 0 ≤ (wrap64 (Int.tdiv (mn (ji5) a0_0) 64)) then (if (wrap64 (Int.tdiv (mn (ji5) a0_0) 64)) ≤ (l0_1.length : Int) then (bitset_Rank.l0 k (mn (ji5) a0_0) 0 (l0_1.take ((wrap64 (Int.tdiv (mn (ji5) a0_0) 64)) : Int).toNat) ((l0_1.take ((wrap64 (Int.tdiv (mn (ji5) a0_0) 64)) : Int).toNat).length : Int) 0 a0_0 l0_1) else (none)) else (none)) = some r := by first | (rw [hji5] at H; exact H) | (simp only [hji5] at H ⊢; exact H)
    (try rw [hji5] at A3)
    (try (have hji5l : 0 ≤ ji5 := by (rw [← hji5]; unfold mx; (repeat' split) <;> omega)))
    (try (have hji5m : 0 ≤ ji5 := by omega))
    have hji5_ : (if a1 < 0 then 0 else a1) = ji5 := hji5
    obtain ⟨ji6, hji6⟩ : ∃ j_ : Int, (mn (ji5) a0_0) = j_ := ⟨_, rfl⟩
    replace H : (if 0 ≤ (wrap64 (Int.tdiv (ji6) 64)) then (if (wrap64 (Int.tdiv (ji6) 64)) ≤ (l0_1.length : Int) then (bitset_Rank.l0 k ji6 0 (l0_1.take ((wrap64 (Int.tdiv (ji6) 64)) : Int).toNat) ((l0_1.take ((wrap64 (Int.tdiv (ji6) 64)) : Int).toNat).length : Int) 0 a0_0 l0_1) else (none)) else (none)) = some r := by first | (rw [hji6] at H; exact H) | (simp only [hji6] at H ⊢; exact H)
    (try rw [hji6] at A3)
    have hji6_ : (if a0_0 < (ji5) then a0_0 else (ji5)) = ji6 := hji6
    obtain ⟨ji7, hji7⟩ : ∃ j_ : Int, (wrap64 (Int.tdiv (ji6) 64)) = j_ := ⟨_, rfl⟩
    replace H : (if 0 ≤ (ji7) then (if (ji7) ≤ (l0_1.length : Int) then (bitset_Rank.l0 k ji6 0 (l0_1.take ((ji7) : Int).toNat) ((l0_1.take ((ji7) : Int).toNat).length : Int) 0 a0_0 l0_1) else (none)) else (none)) = some r := by first | (rw [hji7] at H; exact H) | (simp only [hji7] at H ⊢; exact H)
    (try rw [hji7] at A3)
    have hji7w : (IntKind.i64.wrap (Int.tdiv (ji6) 64)) = ji7 := (i64_w _).trans hji7
    by_cases c8 : 0 ≤ (ji7)
    · rw [if_pos c8] at H
      have c8b0 := eq_true c8
      have c8b1 : decide (0 ≤ (ji7)) = true := decide_eq_true c8
      clear c8
      by_cases c9 : (ji7) ≤ (l0_1.length : Int)
      · rw [if_pos c9] at H
        have c9b0 := eq_true c9
        have c9b1 : decide ((ji7) ≤ (l0_1.length : Int)) = true := decide_eq_true c9
        clear c9
        have H' := Aside0.mk H
        clear H
        go_enter Tryd.func25, Tryd.ntmps25
        go_wp2_with (first | ((with_reducible refine gate_dst (N := 2) rfl ?_); refine box_event ?hg (N := 2) ?hd (cs := #[.int .i64 a0_0, .slice A0_1 l0_1.length c0_1]) (t := 24) ?hr ?_; (case hd => rfl); (case hg => rfl); (case hr => first | (go_simp; done) | (go_simp; rfl)); intro gb101 hg w10 hbox hb; have n0_ := Aside0.mk (below_step (by repeat (first | (with_reducible first | exact HB.out | apply below_alloc | apply pw_below_drewN | apply below_drew1) | exact HB.out)) hb); have n1_ := Aside0.mk (hbox); have n2_ := Aside0.mk ((by rw [hg]; exact (below_size (by repeat (first | (with_reducible first | exact HB.out | apply below_alloc | apply pw_below_drewN | apply below_drew1) | exact HB.out))) : w.heap.size ≤ gb101)); have n3_ := Aside0.mk ((by rw [hg]; exact (below_size (by repeat (first | (with_reducible first | exact HB.out | apply below_alloc | apply pw_below_drewN | apply below_drew1) | exact HB.out))) : w.heap.size ≤ gb101)); clear HB; have HB := n0_; have BK101 := n1_; have GW101 := n2_; have GE101 := n3_; clear n0_ n1_ n2_ n3_; clear hb hbox hg; have hcz11_0 : w10.cell? ⟨gb101, 0, none⟩ = some (.int .i64 a0_0) := (blk_cell BK101.out 0).trans rfl; have hcz11_1 : w10.cell? ⟨gb101, 1, none⟩ = some (.slice A0_1 l0_1.length c0_1) := (blk_cell BK101.out 1).trans rfl; have hfz11_0 := blk_frozen BK101.out 0; have hfz11_1 := blk_frozen BK101.out 1) | (go_at_call 69; (with_reducible refine (bitset_May.calls a0_0 _ _ l0_1 true _ ?side1 ?side2 A3.out).mono ?_); (case side1 => repeat (first | exact (Kd.C_below HR0_1.out HB.out) | (with_reducible refine Kd.C_alloc ?_ _) | (with_reducible refine Kd.C_drewN ?_ _) | (with_reducible refine Kd.C_drew ?_))); (case side2 => exact HC0_1.out); rintro e w12 ⟨rfl, hb⟩; have n0_ := Aside0.mk (blk_below (g := gb101) (o := .cells #[.int .i64 a0_0, .slice A0_1 l0_1.length c0_1] 24 (0, 0)) (by (with_reducible repeat (first | refine blk_drewN ?_ _ | refine blk_drew ?_ | refine blk_alloc ?_ _)); exact BK101.out) hb); have n1_ := Aside0.mk (below_step (by repeat (first | (with_reducible first | exact HB.out | apply below_alloc | apply pw_below_drewN | apply below_drew1 | refine below_set ?_ GE101.out) | exact HB.out)) hb); clear BK101; clear HB; have BK101 := n0_; have HB := n1_; clear n0_ n1_; (try clear hb); (try clear hb2); (try clear hk); (try clear hi); have hcz13_0 : w12.cell? ⟨gb101, 0, none⟩ = some (.int .i64 a0_0) := (blk_cell BK101.out 0).trans rfl; have hcz13_1 : w12.cell? ⟨gb101, 1, none⟩ = some (.slice A0_1 l0_1.length c0_1) := (blk_cell BK101.out 1).trans rfl; have hfz13_0 := blk_frozen BK101.out 0; have hfz13_1 := blk_frozen BK101.out 1; obtain ⟨i014, hi014, _, hsz14, _⟩ := info_parts info87; obtain ⟨hcut14, hA14, hC14⟩ := print_take_of (P := Tryd.prog) (Value.int .u64) 0 22 87 .i64 Tryd.underlying22 hi014 hsz14 A0_1 c0_1 l0_1 (ji7) (of_decide_eq_true (by first | (with_reducible assumption) | assumption)) (of_decide_eq_true (by first | (with_reducible assumption) | assumption)) HC0_1.out; have HR103 := Aside0.mk (Kd.C_of_reads (h1 := fun _ => rfl) (hA14 _ (Kd.reads_of_C HR0_1.out))); have HC103 := Aside0.mk hC14; clear hA14 hC14 hi014 hsz14))
        repeat (go_quiet (first | ((with_reducible refine gate_dst (N := 2) rfl ?_); refine box_event ?hg (N := 2) ?hd (cs := #[.int .i64 a0_0, .slice A0_1 l0_1.length c0_1]) (t := 24) ?hr ?_; (case hd => rfl); (case hg => rfl); (case hr => first | (go_simp; done) | (go_simp; rfl)); intro gb101 hg w10 hbox hb; have n0_ := Aside0.mk (below_step (by repeat (first | (with_reducible first | exact HB.out | apply below_alloc | apply pw_below_drewN | apply below_drew1) | exact HB.out)) hb); have n1_ := Aside0.mk (hbox); have n2_ := Aside0.mk ((by rw [hg]; exact (below_size (by repeat (first | (with_reducible first | exact HB.out | apply below_alloc | apply pw_below_drewN | apply below_drew1) | exact HB.out))) : w.heap.size ≤ gb101)); have n3_ := Aside0.mk ((by rw [hg]; exact (below_size (by repeat (first | (with_reducible first | exact HB.out | apply below_alloc | apply pw_below_drewN | apply below_drew1) | exact HB.out))) : w.heap.size ≤ gb101)); clear HB; have HB := n0_; have BK101 := n1_; have GW101 := n2_; have GE101 := n3_; clear n0_ n1_ n2_ n3_; clear hb hbox hg; have hcz11_0 : w10.cell? ⟨gb101, 0, none⟩ = some (.int .i64 a0_0) := (blk_cell BK101.out 0).trans rfl; have hcz11_1 : w10.cell? ⟨gb101, 1, none⟩ = some (.slice A0_1 l0_1.length c0_1) := (blk_cell BK101.out 1).trans rfl; have hfz11_0 := blk_frozen BK101.out 0; have hfz11_1 := blk_frozen BK101.out 1) | (go_at_call 69; (with_reducible refine (bitset_May.calls a0_0 _ _ l0_1 true _ ?side1 ?side2 A3.out).mono ?_); (case side1 => repeat (first | exact (Kd.C_below HR0_1.out HB.out) | (with_reducible refine Kd.C_alloc ?_ _) | (with_reducible refine Kd.C_drewN ?_ _) | (with_reducible refine Kd.C_drew ?_))); (case side2 => exact HC0_1.out); rintro e w12 ⟨rfl, hb⟩; have n0_ := Aside0.mk (blk_below (g := gb101) (o := .cells #[.int .i64 a0_0, .slice A0_1 l0_1.length c0_1] 24 (0, 0)) (by (with_reducible repeat (first | refine blk_drewN ?_ _ | refine blk_drew ?_ | refine blk_alloc ?_ _)); exact BK101.out) hb); have n1_ := Aside0.mk (below_step (by repeat (first | (with_reducible first | exact HB.out | apply below_alloc | apply pw_below_drewN | apply below_drew1 | refine below_set ?_ GE101.out) | exact HB.out)) hb); clear BK101; clear HB; have BK101 := n0_; have HB := n1_; clear n0_ n1_; (try clear hb); (try clear hb2); (try clear hk); (try clear hi); have hcz13_0 : w12.cell? ⟨gb101, 0, none⟩ = some (.int .i64 a0_0) := (blk_cell BK101.out 0).trans rfl; have hcz13_1 : w12.cell? ⟨gb101, 1, none⟩ = some (.slice A0_1 l0_1.length c0_1) := (blk_cell BK101.out 1).trans rfl; have hfz13_0 := blk_frozen BK101.out 0; have hfz13_1 := blk_frozen BK101.out 1; obtain ⟨i014, hi014, _, hsz14, _⟩ := info_parts info87; obtain ⟨hcut14, hA14, hC14⟩ := print_take_of (P := Tryd.prog) (Value.int .u64) 0 22 87 .i64 Tryd.underlying22 hi014 hsz14 A0_1 c0_1 l0_1 (ji7) (of_decide_eq_true (by first | (with_reducible assumption) | assumption)) (of_decide_eq_true (by first | (with_reducible assumption) | assumption)) HC0_1.out; have HR103 := Aside0.mk (Kd.C_of_reads (h1 := fun _ => rfl) (hA14 _ (Kd.reads_of_C HR0_1.out))); have HC103 := Aside0.mk hC14; clear hA14 hC14 hi014 hsz14)); try go_wp2_with (first | ((with_reducible refine gate_dst (N := 2) rfl ?_); refine box_event ?hg (N := 2) ?hd (cs := #[.int .i64 a0_0, .slice A0_1 l0_1.length c0_1]) (t := 24) ?hr ?_; (case hd => rfl); (case hg => rfl); (case hr => first | (go_simp; done) | (go_simp; rfl)); intro gb101 hg w10 hbox hb; have n0_ := Aside0.mk (below_step (by repeat (first | (with_reducible first | exact HB.out | apply below_alloc | apply pw_below_drewN | apply below_drew1) | exact HB.out)) hb); have n1_ := Aside0.mk (hbox); have n2_ := Aside0.mk ((by rw [hg]; exact (below_size (by repeat (first | (with_reducible first | exact HB.out | apply below_alloc | apply pw_below_drewN | apply below_drew1) | exact HB.out))) : w.heap.size ≤ gb101)); have n3_ := Aside0.mk ((by rw [hg]; exact (below_size (by repeat (first | (with_reducible first | exact HB.out | apply below_alloc | apply pw_below_drewN | apply below_drew1) | exact HB.out))) : w.heap.size ≤ gb101)); clear HB; have HB := n0_; have BK101 := n1_; have GW101 := n2_; have GE101 := n3_; clear n0_ n1_ n2_ n3_; clear hb hbox hg; have hcz11_0 : w10.cell? ⟨gb101, 0, none⟩ = some (.int .i64 a0_0) := (blk_cell BK101.out 0).trans rfl; have hcz11_1 : w10.cell? ⟨gb101, 1, none⟩ = some (.slice A0_1 l0_1.length c0_1) := (blk_cell BK101.out 1).trans rfl; have hfz11_0 := blk_frozen BK101.out 0; have hfz11_1 := blk_frozen BK101.out 1) | (go_at_call 69; (with_reducible refine (bitset_May.calls a0_0 _ _ l0_1 true _ ?side1 ?side2 A3.out).mono ?_); (case side1 => repeat (first | exact (Kd.C_below HR0_1.out HB.out) | (with_reducible refine Kd.C_alloc ?_ _) | (with_reducible refine Kd.C_drewN ?_ _) | (with_reducible refine Kd.C_drew ?_))); (case side2 => exact HC0_1.out); rintro e w12 ⟨rfl, hb⟩; have n0_ := Aside0.mk (blk_below (g := gb101) (o := .cells #[.int .i64 a0_0, .slice A0_1 l0_1.length c0_1] 24 (0, 0)) (by (with_reducible repeat (first | refine blk_drewN ?_ _ | refine blk_drew ?_ | refine blk_alloc ?_ _)); exact BK101.out) hb); have n1_ := Aside0.mk (below_step (by repeat (first | (with_reducible first | exact HB.out | apply below_alloc | apply pw_below_drewN | apply below_drew1 | refine below_set ?_ GE101.out) | exact HB.out)) hb); clear BK101; clear HB; have BK101 := n0_; have HB := n1_; clear n0_ n1_; (try clear hb); (try clear hb2); (try clear hk); (try clear hi); have hcz13_0 : w12.cell? ⟨gb101, 0, none⟩ = some (.int .i64 a0_0) := (blk_cell BK101.out 0).trans rfl; have hcz13_1 : w12.cell? ⟨gb101, 1, none⟩ = some (.slice A0_1 l0_1.length c0_1) := (blk_cell BK101.out 1).trans rfl; have hfz13_0 := blk_frozen BK101.out 0; have hfz13_1 := blk_frozen BK101.out 1; obtain ⟨i014, hi014, _, hsz14, _⟩ := info_parts info87; obtain ⟨hcut14, hA14, hC14⟩ := print_take_of (P := Tryd.prog) (Value.int .u64) 0 22 87 .i64 Tryd.underlying22 hi014 hsz14 A0_1 c0_1 l0_1 (ji7) (of_decide_eq_true (by first | (with_reducible assumption) | assumption)) (of_decide_eq_true (by first | (with_reducible assumption) | assumption)) HC0_1.out; have HR103 := Aside0.mk (Kd.C_of_reads (h1 := fun _ => rfl) (hA14 _ (Kd.reads_of_C HR0_1.out))); have HC103 := Aside0.mk hC14; clear hA14 hC14 hi014 hsz14)))
        have HLEN := Aside0.mk (show (l0_1.take ((ji7) : Int).toNat).length = ((ji7) : Int).toNat by rw [List.length_take]; have h_ := of_decide_eq_true ‹decide (ji7 ≤ (l0_1.length : Int)) = true›; omega)
        have HMAX := Aside0.mk (show max ji7 0 = ((l0_1.take ((ji7) : Int).toNat).length : Int) by rw [HLEN.out]; omega)
        go_loopg [5, 22] k (fun kq v5 v22 w' => ∃ (x5_1 : Int) (x22_1 : Int), v5 = .int .i64 x5_1 ∧ v22 = .int .i64 x22_1 ∧ Aside0 (bitset_Rank.l0 kq ji6 x5_1 (l0_1.take ((ji7) : Int).toNat) ((l0_1.take ((ji7) : Int).toNat).length : Int) x22_1 a0_0 l0_1 = some r) ∧ Aside0 (kq ≤ k) ∧ Aside0 (w'.heap[gb101]? = some (.cells #[.int .i64 a0_0, (.slice A0_1 l0_1.length c0_1)] 24 (0, 0))) ∧ Aside0 (Below w.heap.size w w'))
        case atStart => exact ⟨(0), (0), (by first | rfl | (simp; done) | (simp [*]; done)), (by first | rfl | (simp; done) | (simp [*]; done)), H', ⟨Nat.le_refl _⟩, ⟨by (with_reducible repeat (first | refine blk_drewN ?_ _ | refine blk_drew ?_ | refine blk_alloc ?_ _)); exact BK101.out⟩, ⟨by repeat (first | (with_reducible first | exact HB.out | apply below_alloc | apply pw_below_drewN | apply below_drew1 | refine below_set ?_ GE101.out) | exact HB.out)⟩⟩
        case round =>
          clear H'
          try clear c2
          try clear p2
          try clear c4
          try clear p6
          try clear c8
          try clear c8b0
          try clear c8b1
          try clear c9
          try clear c9b0
          try clear c9b1
          try clear hcz11_0
          try clear hcz11_1
          try clear hcz13_0
          try clear hcz13_1
          try clear hfz11_0
          try clear hfz11_1
          try clear hfz13_0
          try clear hfz13_1
          obtain ⟨x5_1, x22_1, rfl, rfl, HA, HK1, BK101, HB⟩ := hrel
          cases gk with
          | zero => exact absurd HA.out (by simp [bitset_Rank.l0])
          | succ k1 =>
            have H := HA.out
            clear HA
            simp only [bitset_Rank.l0] at H
            by_cases c15 : x22_1 < ((l0_1.take ((ji7) : Int).toNat).length : Int)
            · rw [if_pos c15] at H
              have c15b0 : decide (x22_1 < ((l0_1.take ((ji7) : Int).toNat).length : Int)) = true := decide_eq_true c15
              have c15b9 : decide (x22_1 < max ji7 0) = true := by rw [HMAX.out]; exact c15b0
              clear c15
              by_cases c16 : 0 ≤ x22_1
              · rw [if_pos c16] at H
                have c16b0 : decide (0 ≤ x22_1) = true := decide_eq_true c16
                clear c16
                by_cases c17 : x22_1 < ((l0_1.take ((ji7) : Int).toNat).length : Int)
                · rw [if_pos c17] at H
                  have c17b0 : decide (x22_1 < ((l0_1.take ((ji7) : Int).toNat).length : Int)) = true := decide_eq_true c17
                  have c17b9 : decide (x22_1 < max ji7 0) = true := by rw [HMAX.out]; exact c17b0
                  clear c17
                  replace H := Option.bind_eq_some_iff.mp H
                  obtain ⟨t105, A180, H⟩ := H
                  replace H : (bitset_Rank.l0 k1 ji6 (wrap64 (x5_1 + t105)) (l0_1.take ((ji7) : Int).toNat) ((l0_1.take ((ji7) : Int).toNat).length : Int) (wrap64 (x22_1 + 1)) a0_0 l0_1) = some r := H
                  have A18 := Aside0.mk A180
                  clear A180
                  have H' := Aside0.mk H
                  clear H
                  have p104 : 0 ≤ (x22_1 : Int) := of_decide_eq_true (by first | (with_reducible assumption) | assumption)
                  have q104 : x22_1 < ((l0_1.take ((ji7) : Int).toNat).length : Int) := of_decide_eq_true (by first | (with_reducible assumption) | assumption)
                  obtain ⟨ad104, e104, hx104_0⟩ := Kd.at_int HR103.out x22_1 p104 q104
                  cases e104
                  replace hx104_0 := (HB.out.cell (World.block_lt_of_cell? w _ hx104_0)).trans hx104_0
                  replace p104 := eq_true p104
                  replace q104 := eq_true q104
                  have q104c : (x22_1 < max ji7 0) = True := by rw [HMAX.out]; exact q104
                  go_wp2_with (first | (go_at_call 79; (with_reducible refine (bits_OnesCount64.calls (rd (l0_1.take ((ji7) : Int).toNat) x22_1) t105 _ A18.out).mono ?_); rintro e w' ⟨rfl, ⟨nd, rfl⟩⟩; (try first | exact ⟨rfl, _, World.drewN_drewN _ _ _⟩ | exact ⟨rfl, _, Eq.trans (World.drewN_drewN _ _ _) (congrArg (World.drewN _) (Nat.add_assoc _ _ _))⟩)))
                  repeat (go_quiet (first | (go_at_call 79; (with_reducible refine (bits_OnesCount64.calls (rd (l0_1.take ((ji7) : Int).toNat) x22_1) t105 _ A18.out).mono ?_); rintro e w' ⟨rfl, ⟨nd, rfl⟩⟩; (try first | exact ⟨rfl, _, World.drewN_drewN _ _ _⟩ | exact ⟨rfl, _, Eq.trans (World.drewN_drewN _ _ _) (congrArg (World.drewN _) (Nat.add_assoc _ _ _))⟩))); try go_wp2_with (first | (go_at_call 79; (with_reducible refine (bits_OnesCount64.calls (rd (l0_1.take ((ji7) : Int).toNat) x22_1) t105 _ A18.out).mono ?_); rintro e w' ⟨rfl, ⟨nd, rfl⟩⟩; (try first | exact ⟨rfl, _, World.drewN_drewN _ _ _⟩ | exact ⟨rfl, _, Eq.trans (World.drewN_drewN _ _ _) (congrArg (World.drewN _) (Nat.add_assoc _ _ _))⟩))))
                  go_roundg k1
                  case measure => have := HK1.out; omega
                  case rel => exact ⟨(wrap64 (x5_1 + t105)), (wrap64 (x22_1 + 1)), (by first | rfl | (simp; done) | (simp [*]; done)), (by first | rfl | (simp; done) | (simp [*]; done)), H', ⟨by have := HK1.out; omega⟩, ⟨by (with_reducible repeat (first | refine blk_drewN ?_ _ | refine blk_drew ?_ | refine blk_alloc ?_ _)); exact BK101.out⟩, ⟨by repeat (first | (with_reducible first | exact HB.out | apply below_alloc | apply pw_below_drewN | apply below_drew1 | refine below_set ?_ GE101.out) | exact HB.out)⟩⟩
                · rw [if_neg c17] at H
                  exact absurd H (by simp)
              · rw [if_neg c16] at H
                exact absurd H (by simp)
            · rw [if_neg c15] at H
              have c15b0 : decide (x22_1 < ((l0_1.take ((ji7) : Int).toNat).length : Int)) = false := decide_eq_false c15
              have c15b9 : decide (x22_1 < max ji7 0) = false := by rw [HMAX.out]; exact c15b0
              clear c15
              by_cases c19 : (Int.tmod ji6 64) = 0
              · rw [if_pos c19] at H
                have c19b0 : ((Int.tmod ji6 64) == 0) = true := beq_iff_eq.mpr c19
                have c19b1 : ((Int.tmod ji6 64) != 0) = false := bne_eq_false_iff_eq.mpr c19
                clear c19
                obtain rfl := Option.some.inj H
                go_wp2
                repeat (go_quiet (fail); try go_wp2)
                go_ret
                exact ⟨by first | rfl | (simp [errW_none, errW_some] <;> rfl) | (simp only [← hji5, ← hji6, ← hji7]; first | rfl | (simp [errW_none, errW_some] <;> rfl)) | (simp [*, errW_none, errW_some] <;> rfl), by repeat (first | (with_reducible first | exact HB.out | apply below_alloc | apply pw_below_drewN | apply below_drew1 | refine below_set ?_ GE101.out) | exact HB.out)⟩
              · rw [if_neg c19] at H
                have c19b0 : ((Int.tmod ji6 64) == 0) = false := beq_eq_false_iff_ne.mpr c19
                have c19b1 : ((Int.tmod ji6 64) != 0) = true := bne_iff_ne.mpr c19
                have hji20 : (wrap64 (Int.tdiv ji6 64)) = ji7 := hji7
                replace H : (if 0 ≤ (ji7) then (if (ji7) < (l0_1.length : Int) then (if 0 ≤ (Int.tmod ji6 64) then ((bits_OnesCount64.f (Go.bits .and .u64 (rd l0_1 (ji7)) (IntKind.u64.wrap ((shl .u64 1 (Int.tmod ji6 64)) - 1)))).bind fun t107 => (some (wrap64 (x5_1 + t107)))) else (none)) else (none)) else (none)) = some r := by first | (rw [hji20] at H; exact H) | (simp only [hji20] at H ⊢; exact H)
                have hji20w : (IntKind.i64.wrap (Int.tdiv ji6 64)) = ji7 := (i64_w _).trans hji20
                by_cases c21 : 0 ≤ (ji7)
                · rw [if_pos c21] at H
                  have c21b0 : decide (0 ≤ (ji7)) = true := decide_eq_true c21
                  clear c21
                  by_cases c22 : (ji7) < (l0_1.length : Int)
                  · rw [if_pos c22] at H
                    have c22b0 : decide ((ji7) < (l0_1.length : Int)) = true := decide_eq_true c22
                    clear c22
                    obtain ⟨ji23, hji23⟩ : ∃ j_ : Int, (Int.tmod ji6 64) = j_ := ⟨_, rfl⟩
                    replace H : (if 0 ≤ (ji23) then ((bits_OnesCount64.f (Go.bits .and .u64 (rd l0_1 (ji7)) (IntKind.u64.wrap ((shl .u64 1 (ji23)) - 1)))).bind fun t107 => (some (wrap64 (x5_1 + t107)))) else (none)) = some r := by first | (rw [hji23] at H; exact H) | (simp only [hji23] at H ⊢; exact H)
                    (try rw [hji23] at c19b0)
                    (try rw [hji23] at c19b1)
                    by_cases c24 : 0 ≤ (ji23)
                    · rw [if_pos c24] at H
                      have c24b0 := eq_true c24
                      have c24b1 : decide (0 ≤ (ji23)) = true := decide_eq_true c24
                      clear c24
                      obtain ⟨ji25, hji25⟩ : ∃ j_ : Int, (shl .u64 1 (ji23)) = j_ := ⟨_, rfl⟩
                      replace H : ((bits_OnesCount64.f (Go.bits .and .u64 (rd l0_1 (ji7)) (IntKind.u64.wrap ((ji25) - 1)))).bind fun t107 => (some (wrap64 (x5_1 + t107)))) = some r := by first | (rw [hji25] at H; exact H) | (simp only [hji25] at H ⊢; exact H)
                      have hji25_ : (IntKind.u64.wrap (1 * 2 ^ min (ji23).toNat 64)) = ji25 := hji25
                      have hji25z : (ji23) ≤ 64 → (IntKind.u64.wrap (1 * 2 ^ (ji23).toNat)) = ji25 := shl_small hji25
                      have hji25u : (IntKind.u64.wrap (2 ^ min (ji23).toNat 64)) = ji25 := by have h_ := hji25_; rw [Int.one_mul] at h_; exact h_
                      have hji25v : (ji23) ≤ 64 → (IntKind.u64.wrap (2 ^ (ji23).toNat)) = ji25 := fun hle_ => by have h_ := hji25z hle_; rw [Int.one_mul] at h_; exact h_
                      replace H := Option.bind_eq_some_iff.mp H
                      obtain ⟨t107, A260, H⟩ := H
                      replace H : (some (wrap64 (x5_1 + t107))) = some r := H
                      have A26 := Aside0.mk A260
                      clear A260
                      obtain rfl := Option.some.inj H
                      have hcz27_0 : wr.cell? ⟨gb101, 0, none⟩ = some (.int .i64 a0_0) := (blk_cell BK101.out 0).trans rfl
                      have hcz27_1 : wr.cell? ⟨gb101, 1, none⟩ = some (.slice A0_1 l0_1.length c0_1) := (blk_cell BK101.out 1).trans rfl
                      have hfz27_0 := blk_frozen BK101.out 0
                      have hfz27_1 := blk_frozen BK101.out 1
                      have p106 : 0 ≤ ((ji7) : Int) := of_decide_eq_true (by first | (with_reducible assumption) | assumption)
                      have q106 : (ji7) < (l0_1.length : Int) := of_decide_eq_true (by first | (with_reducible assumption) | assumption)
                      obtain ⟨ad106, e106, hx106_0⟩ := Kd.at_int HR0_1.out (ji7) p106 q106
                      cases e106
                      replace hx106_0 := (HB.out.cell (World.block_lt_of_cell? w _ hx106_0)).trans hx106_0
                      replace p106 := eq_true p106
                      replace q106 := eq_true q106
                      go_wp2_with (first | (go_at_call 79; (with_reducible refine (bits_OnesCount64.calls (Go.bits .and .u64 (rd l0_1 (ji7)) (IntKind.u64.wrap ((ji25) - 1))) t107 _ A26.out).mono ?_); rintro e w' ⟨rfl, ⟨nd, rfl⟩⟩; (try first | exact ⟨rfl, _, World.drewN_drewN _ _ _⟩ | exact ⟨rfl, _, Eq.trans (World.drewN_drewN _ _ _) (congrArg (World.drewN _) (Nat.add_assoc _ _ _))⟩)))
                      repeat (go_quiet (first | (go_at_call 79; (with_reducible refine (bits_OnesCount64.calls (Go.bits .and .u64 (rd l0_1 (ji7)) (IntKind.u64.wrap ((ji25) - 1))) t107 _ A26.out).mono ?_); rintro e w' ⟨rfl, ⟨nd, rfl⟩⟩; (try first | exact ⟨rfl, _, World.drewN_drewN _ _ _⟩ | exact ⟨rfl, _, Eq.trans (World.drewN_drewN _ _ _) (congrArg (World.drewN _) (Nat.add_assoc _ _ _))⟩))); try go_wp2_with (first | (go_at_call 79; (with_reducible refine (bits_OnesCount64.calls (Go.bits .and .u64 (rd l0_1 (ji7)) (IntKind.u64.wrap ((ji25) - 1))) t107 _ A26.out).mono ?_); rintro e w' ⟨rfl, ⟨nd, rfl⟩⟩; (try first | exact ⟨rfl, _, World.drewN_drewN _ _ _⟩ | exact ⟨rfl, _, Eq.trans (World.drewN_drewN _ _ _) (congrArg (World.drewN _) (Nat.add_assoc _ _ _))⟩))))
                      go_ret
                      exact ⟨by first | rfl | (simp [errW_none, errW_some] <;> rfl) | (simp only [← hji5, ← hji6, ← hji7, ← hji20, ← hji23, ← hji25]; first | rfl | (simp [errW_none, errW_some] <;> rfl)) | (simp [*, errW_none, errW_some] <;> rfl), by repeat (first | (with_reducible first | exact HB.out | apply below_alloc | apply pw_below_drewN | apply below_drew1 | refine below_set ?_ GE101.out) | exact HB.out)⟩
                    · rw [if_neg c24] at H
                      exact absurd H (by simp)
                  · rw [if_neg c22] at H
                    exact absurd H (by simp)
                · rw [if_neg c21] at H
                  exact absurd H (by simp)
      · rw [if_neg c9] at H
        exact absurd H (by simp)
    · rw [if_neg c8] at H
      exact absurd H (by simp)
  · replace c4 := Bool.eq_false_iff.mpr c4
    subst c4
    have H1 : (some 0) = some r := by rw [if_neg (show ¬ (false = true) by decide)] at H; exact H
    clear H
    have H := H1
    clear H1
    obtain rfl := Option.some.inj H
    go_enter Tryd.func25, Tryd.ntmps25
    go_wp2_with (first | ((with_reducible refine gate_dst (N := 2) rfl ?_); refine box_event ?hg (N := 2) ?hd (cs := #[.int .i64 a0_0, .slice A0_1 l0_1.length c0_1]) (t := 24) ?hr ?_; (case hd => rfl); (case hg => rfl); (case hr => first | (go_simp; done) | (go_simp; rfl)); intro gb101 hg w28 hbox hb; have n0_ := Aside0.mk (below_step (by repeat (first | (with_reducible first | exact HB.out | apply below_alloc | apply pw_below_drewN | apply below_drew1) | exact HB.out)) hb); have n1_ := Aside0.mk (hbox); have n2_ := Aside0.mk ((by rw [hg]; exact (below_size (by repeat (first | (with_reducible first | exact HB.out | apply below_alloc | apply pw_below_drewN | apply below_drew1) | exact HB.out))) : w.heap.size ≤ gb101)); have n3_ := Aside0.mk ((by rw [hg]; exact (below_size (by repeat (first | (with_reducible first | exact HB.out | apply below_alloc | apply pw_below_drewN | apply below_drew1) | exact HB.out))) : w.heap.size ≤ gb101)); clear HB; have HB := n0_; have BK101 := n1_; have GW101 := n2_; have GE101 := n3_; clear n0_ n1_ n2_ n3_; clear hb hbox hg; have hcz29_0 : w28.cell? ⟨gb101, 0, none⟩ = some (.int .i64 a0_0) := (blk_cell BK101.out 0).trans rfl; have hcz29_1 : w28.cell? ⟨gb101, 1, none⟩ = some (.slice A0_1 l0_1.length c0_1) := (blk_cell BK101.out 1).trans rfl; have hfz29_0 := blk_frozen BK101.out 0; have hfz29_1 := blk_frozen BK101.out 1) | (go_at_call 69; (with_reducible refine (bitset_May.calls a0_0 _ _ l0_1 false _ ?side1 ?side2 A3.out).mono ?_); (case side1 => repeat (first | exact (Kd.C_below HR0_1.out HB.out) | (with_reducible refine Kd.C_alloc ?_ _) | (with_reducible refine Kd.C_drewN ?_ _) | (with_reducible refine Kd.C_drew ?_))); (case side2 => exact HC0_1.out); rintro e w30 ⟨rfl, hb⟩; have n0_ := Aside0.mk (blk_below (g := gb101) (o := .cells #[.int .i64 a0_0, .slice A0_1 l0_1.length c0_1] 24 (0, 0)) (by (with_reducible repeat (first | refine blk_drewN ?_ _ | refine blk_drew ?_ | refine blk_alloc ?_ _)); exact BK101.out) hb); have n1_ := Aside0.mk (below_step (by repeat (first | (with_reducible first | exact HB.out | apply below_alloc | apply pw_below_drewN | apply below_drew1 | refine below_set ?_ GE101.out) | exact HB.out)) hb); clear BK101; clear HB; have BK101 := n0_; have HB := n1_; clear n0_ n1_; (try clear hb); (try clear hb2); (try clear hk); (try clear hi)))
    repeat (go_quiet (first | ((with_reducible refine gate_dst (N := 2) rfl ?_); refine box_event ?hg (N := 2) ?hd (cs := #[.int .i64 a0_0, .slice A0_1 l0_1.length c0_1]) (t := 24) ?hr ?_; (case hd => rfl); (case hg => rfl); (case hr => first | (go_simp; done) | (go_simp; rfl)); intro gb101 hg w28 hbox hb; have n0_ := Aside0.mk (below_step (by repeat (first | (with_reducible first | exact HB.out | apply below_alloc | apply pw_below_drewN | apply below_drew1) | exact HB.out)) hb); have n1_ := Aside0.mk (hbox); have n2_ := Aside0.mk ((by rw [hg]; exact (below_size (by repeat (first | (with_reducible first | exact HB.out | apply below_alloc | apply pw_below_drewN | apply below_drew1) | exact HB.out))) : w.heap.size ≤ gb101)); have n3_ := Aside0.mk ((by rw [hg]; exact (below_size (by repeat (first | (with_reducible first | exact HB.out | apply below_alloc | apply pw_below_drewN | apply below_drew1) | exact HB.out))) : w.heap.size ≤ gb101)); clear HB; have HB := n0_; have BK101 := n1_; have GW101 := n2_; have GE101 := n3_; clear n0_ n1_ n2_ n3_; clear hb hbox hg; have hcz29_0 : w28.cell? ⟨gb101, 0, none⟩ = some (.int .i64 a0_0) := (blk_cell BK101.out 0).trans rfl; have hcz29_1 : w28.cell? ⟨gb101, 1, none⟩ = some (.slice A0_1 l0_1.length c0_1) := (blk_cell BK101.out 1).trans rfl; have hfz29_0 := blk_frozen BK101.out 0; have hfz29_1 := blk_frozen BK101.out 1) | (go_at_call 69; (with_reducible refine (bitset_May.calls a0_0 _ _ l0_1 false _ ?side1 ?side2 A3.out).mono ?_); (case side1 => repeat (first | exact (Kd.C_below HR0_1.out HB.out) | (with_reducible refine Kd.C_alloc ?_ _) | (with_reducible refine Kd.C_drewN ?_ _) | (with_reducible refine Kd.C_drew ?_))); (case side2 => exact HC0_1.out); rintro e w30 ⟨rfl, hb⟩; have n0_ := Aside0.mk (blk_below (g := gb101) (o := .cells #[.int .i64 a0_0, .slice A0_1 l0_1.length c0_1] 24 (0, 0)) (by (with_reducible repeat (first | refine blk_drewN ?_ _ | refine blk_drew ?_ | refine blk_alloc ?_ _)); exact BK101.out) hb); have n1_ := Aside0.mk (below_step (by repeat (first | (with_reducible first | exact HB.out | apply below_alloc | apply pw_below_drewN | apply below_drew1 | refine below_set ?_ GE101.out) | exact HB.out)) hb); clear BK101; clear HB; have BK101 := n0_; have HB := n1_; clear n0_ n1_; (try clear hb); (try clear hb2); (try clear hk); (try clear hi))); try go_wp2_with (first | ((with_reducible refine gate_dst (N := 2) rfl ?_); refine box_event ?hg (N := 2) ?hd (cs := #[.int .i64 a0_0, .slice A0_1 l0_1.length c0_1]) (t := 24) ?hr ?_; (case hd => rfl); (case hg => rfl); (case hr => first | (go_simp; done) | (go_simp; rfl)); intro gb101 hg w28 hbox hb; have n0_ := Aside0.mk (below_step (by repeat (first | (with_reducible first | exact HB.out | apply below_alloc | apply pw_below_drewN | apply below_drew1) | exact HB.out)) hb); have n1_ := Aside0.mk (hbox); have n2_ := Aside0.mk ((by rw [hg]; exact (below_size (by repeat (first | (with_reducible first | exact HB.out | apply below_alloc | apply pw_below_drewN | apply below_drew1) | exact HB.out))) : w.heap.size ≤ gb101)); have n3_ := Aside0.mk ((by rw [hg]; exact (below_size (by repeat (first | (with_reducible first | exact HB.out | apply below_alloc | apply pw_below_drewN | apply below_drew1) | exact HB.out))) : w.heap.size ≤ gb101)); clear HB; have HB := n0_; have BK101 := n1_; have GW101 := n2_; have GE101 := n3_; clear n0_ n1_ n2_ n3_; clear hb hbox hg; have hcz29_0 : w28.cell? ⟨gb101, 0, none⟩ = some (.int .i64 a0_0) := (blk_cell BK101.out 0).trans rfl; have hcz29_1 : w28.cell? ⟨gb101, 1, none⟩ = some (.slice A0_1 l0_1.length c0_1) := (blk_cell BK101.out 1).trans rfl; have hfz29_0 := blk_frozen BK101.out 0; have hfz29_1 := blk_frozen BK101.out 1) | (go_at_call 69; (with_reducible refine (bitset_May.calls a0_0 _ _ l0_1 false _ ?side1 ?side2 A3.out).mono ?_); (case side1 => repeat (first | exact (Kd.C_below HR0_1.out HB.out) | (with_reducible refine Kd.C_alloc ?_ _) | (with_reducible refine Kd.C_drewN ?_ _) | (with_reducible refine Kd.C_drew ?_))); (case side2 => exact HC0_1.out); rintro e w30 ⟨rfl, hb⟩; have n0_ := Aside0.mk (blk_below (g := gb101) (o := .cells #[.int .i64 a0_0, .slice A0_1 l0_1.length c0_1] 24 (0, 0)) (by (with_reducible repeat (first | refine blk_drewN ?_ _ | refine blk_drew ?_ | refine blk_alloc ?_ _)); exact BK101.out) hb); have n1_ := Aside0.mk (below_step (by repeat (first | (with_reducible first | exact HB.out | apply below_alloc | apply pw_below_drewN | apply below_drew1 | refine below_set ?_ GE101.out) | exact HB.out)) hb); clear BK101; clear HB; have BK101 := n0_; have HB := n1_; clear n0_ n1_; (try clear hb); (try clear hb2); (try clear hk); (try clear hi))))
    go_ret
    exact ⟨by first | rfl | (simp [errW_none, errW_some] <;> rfl) | (simp [*, errW_none, errW_some] <;> rfl), by repeat (first | (with_reducible first | exact HB.out | apply below_alloc | apply pw_below_drewN | apply below_drew1 | refine below_set ?_ GE101.out) | exact HB.out)⟩
end Go.Proofs.YtjmkhdhffmlhiaaDoor.PAll
end
section
namespace Go.Proofs.YtjmkhdhffmlhiaaDoor.PAll
set_option linter.unusedVariables false
open Go.RowKit Go.Proofs.YtjmkhdhffmlhiaaDoorW.PrintWords Go.Proofs.YtjmkhdhffmlhiaaDoorW.PrintLast Go.Proofs.YtjmkhdhffmlhiaaDoorW.PrintMore
def bits_TrailingZeros64.f (a0 : Int) : Option (Int) := if 0 ≤ a0 ∧ a0 < 18446744073709551616 then some (Lib.ctz 64 a0.toNat : Int) else none
set_option maxHeartbeats 1000000 in
theorem tz64_core (x k idx : Nat) (w : World) (hx0 : ((x : Int) == 0) = false)
    (key : IntKind.u64.wrap (bits BinOp.and IntKind.u64 (x : Int) (IntKind.u64.wrap (-(x : Int))) * 285870213051353865) / 288230376151711744 = (idx : Int))
    (hi : idx < 64) (hk : k < 64) (hcell : w.cell? ⟨0, idx, none⟩ = some (.int .u8 k)) :
    Calls Tryd.prog 80 #[.int .u64 x] w fun e w' => e = .returned (.int .i64 k) ∧ w' = w := by
  go_enter Tryd.func80, Tryd.ntmps80
  go_wp2_with (simp only [key])
  go_ret
  exact ⟨rfl, rfl⟩
theorem tz64_zero (w : World) :
    Calls Tryd.prog 80 #[.int .u64 0] w fun e w' => e = .returned (.int .i64 64) ∧ w' = w := by
  go_enter Tryd.func80, Tryd.ntmps80
  go_wp2
  go_ret
  exact ⟨rfl, rfl⟩
theorem tz64_key (x a : Nat) (hx : x < 18446744073709551616) (hx0 : x ≠ 0) (hlow : x &&& (18446744073709551616 - x) = a) :
    IntKind.u64.wrap (bits BinOp.and IntKind.u64 (x : Int) (IntKind.u64.wrap (-(x : Int))) * 285870213051353865) / 288230376151711744 = ((a * 285870213051353865 % 18446744073709551616 / 288230376151711744 : Nat) : Int) := by
  have e1 : IntKind.u64.wrap (-(x : Int)) = ((18446744073709551616 - x : Nat) : Int) := by rw [IntKind.wrap_u64]; omega
  rw [e1, bits_and_u64_nat x _ hx (by omega), hlow, IntKind.wrap_u64]
  omega
theorem bits_TrailingZeros64.calls (a0 : Int) (r : Int) (w : World) (hG : Tz w) (h : bits_TrailingZeros64.f a0 = some r) :
    Calls Tryd.prog 80 #[.int .u64 a0] w fun e w' => e = .returned (.int .i64 r) ∧ Drawn0 w w' := by
  unfold bits_TrailingZeros64.f at h
  by_cases hr : 0 ≤ a0 ∧ a0 < 18446744073709551616
  · rw [if_pos hr] at h
    cases h
    obtain ⟨x, rfl⟩ := Int.eq_ofNat_of_zero_le hr.1
    have hx : x < 18446744073709551616 := by omega
    rw [Int.toNat_natCast]
    have fin : ∀ e w', (e = Ending.returned (.int .i64 (Lib.ctz 64 x : Int)) ∧ w' = w) → e = .returned (.int .i64 (Lib.ctz 64 x : Int)) ∧ Drawn0 w w' := fun e w' hh => ⟨hh.1, 0, by rw [hh.2]; rfl⟩
    by_cases hx0 : x = 0
    · subst hx0
      exact (tz64_zero w).mono fun e w' hh => fin e w' hh
    · obtain ⟨hlow, hk⟩ := Lib.lowest_bit 64 x hx0 hx
      obtain ⟨hi, htab⟩ := Lib.deBruijn64_at _ hk
      have hcell := hG _ hi
      rw [htab] at hcell
      exact (tz64_core x _ _ w (by simp; omega) (tz64_key x _ hx hx0 hlow) hi hk hcell).mono fun e w' hh => fin e w' hh
  · rw [if_neg hr] at h
    cases h
end Go.Proofs.YtjmkhdhffmlhiaaDoor.PAll
end
section
namespace Go.Proofs.YtjmkhdhffmlhiaaDoor.PAll
open Go.RowKit Go.Proofs.YtjmkhdhffmlhiaaDoorW.PrintWords Go.Proofs.YtjmkhdhffmlhiaaDoorW.PrintLast Go.Proofs.YtjmkhdhffmlhiaaDoorW.PrintMore
attribute [local go_sem] max2_int min2_int max_two min_two max_three min_three max_four min_four w64_u8 w64_mod256   -- for this text's walks alone
set_option linter.unusedVariables false
set_option linter.unusedSimpArgs false
mutual
def bitset_Select.j0 : Nat → Int → Bool → Int → List Int → Option (Int)
  | 0, _, _, _, _ => none
  | k + 1, x1, x14, x102000, x102001 => if x14 = true then (some (-1)) else (bitset_Select.l0 k x1 x102001 (x102001.length : Int) 0)
def bitset_Select.l0 : Nat → Int → List Int → Int → Int → Option (Int)
  | 0, _, _, _, _ => none
  | k + 1, x1, x16, x17, x18 => if x18 < x17 then (if 0 ≤ x18 then (if x18 < (x16.length : Int) then ((bits_OnesCount64.f (rd x16 x18)).bind fun t104 => (if x1 ≥ t104 then (bitset_Select.l0 k (wrap64 (x1 - t104)) x16 x17 (wrap64 (x18 + 1))) else (bitset_Select.l1 k x1 x18 (rd x16 x18)))) else (none)) else (none)) else (some (-1))
def bitset_Select.l1 : Nat → Int → Int → Int → Option (Int)
  | 0, _, _, _ => none
  | k + 1, x1, x5, x6 => if x1 > 0 then (bitset_Select.l1 k (wrap64 (x1 - 1)) x5 (Go.bits .and .u64 x6 (IntKind.u64.wrap (x6 - 1)))) else ((bits_TrailingZeros64.f x6).bind fun t105 => (some (wrap64 ((wrap64 (x5 * 64)) + t105))))
end
def bitset_Select.f (k : Nat) (a0_0 : Int) (l0_1 : List Int) (a1 : Int) : Option (Int) := (bitset_May.f a0_0 l0_1).bind fun t102 => (if t102 = true then (bitset_Select.j0 k a1 (decide (a1 < 0)) a0_0 l0_1) else (bitset_Select.j0 k a1 true a0_0 l0_1))
set_option maxHeartbeats 8000000 in
set_option maxRecDepth 100000 in
theorem bitset_Select.calls (k : Nat) (a0_0 : Int) (A0_1 : Option Addr) (c0_1 : Nat) (l0_1 : List Int) (a1 : Int) (r : Int) (w : World) (hr0_1 : Kd.C (Kd.int .u64) w A0_1 l0_1.length l0_1) (hc0_1 : l0_1.length ≤ c0_1) (hG : Tz w) (h : bitset_Select.f k a0_0 l0_1 a1 = some r) :
    Calls Tryd.prog 27 #[.agg #[.int .i64 a0_0, .slice A0_1 l0_1.length c0_1], .int .i64 a1] w fun e w' => e = .returned (.int .i64 r) ∧ Below w.heap.size w w' := by
  have hu24 := Tryd.underlying24
  have HR0_1 := Aside0.mk hr0_1
  have HC0_1 := Aside0.mk hc0_1
  clear hr0_1 hc0_1
  have HB := Aside0.mk (Below.refl w.heap.size w)
  have HG := Aside0.mk hG
  clear hG
  have H : ((bitset_May.f a0_0 l0_1).bind fun t102 => (if t102 = true then (bitset_Select.j0 k a1 (decide (a1 < 0)) a0_0 l0_1) else (bitset_Select.j0 k a1 true a0_0 l0_1))) = some r := h
  clear h
  have HC3 := Aside0.mk H
  clear H
  go_enter Tryd.func27, Tryd.ntmps27
  go_upto_region 1 with (first | ((with_reducible refine gate_dst (N := 2) rfl ?_); refine box_event ?hg (N := 2) ?hd (cs := #[.int .i64 a0_0, .slice A0_1 l0_1.length c0_1]) (t := 24) ?hr ?_; (case hd => rfl); (case hg => rfl); (case hr => first | (go_simp; done) | (go_simp; rfl)); intro gb101 hg w4 hbox hb; have n0_ := Aside0.mk (below_step (by repeat (first | (with_reducible first | exact HB.out | apply below_alloc | apply pw_below_drewN | apply below_drew1) | exact HB.out)) hb); have n1_ := Aside0.mk (hbox); have n2_ := Aside0.mk ((by rw [hg]; exact (below_size (by repeat (first | (with_reducible first | exact HB.out | apply below_alloc | apply pw_below_drewN | apply below_drew1) | exact HB.out))) : w.heap.size ≤ gb101)); have n3_ := Aside0.mk ((by rw [hg]; exact (below_size (by repeat (first | (with_reducible first | exact HB.out | apply below_alloc | apply pw_below_drewN | apply below_drew1) | exact HB.out))) : w.heap.size ≤ gb101)); clear HB; have HB := n0_; have BK101 := n1_; have GW101 := n2_; have GE101 := n3_; clear n0_ n1_ n2_ n3_; clear hb hbox hg))
  (try simp only [Act.put, List.setIfInBounds_toArray, List.set_cons_zero, List.set_cons_succ])
  go_cut [14] (fun v14 wc => ∃ (kq : Nat) (x14_2 : Bool), v14 = .bool x14_2 ∧ Aside0 (bitset_Select.j0 kq a1 x14_2 a0_0 l0_1 = some r) ∧ Aside0 (kq ≤ k) ∧ Aside0 (wc.heap[gb101]? = some (.cells #[.int .i64 a0_0, (.slice A0_1 l0_1.length c0_1)] 24 (0, 0))) ∧ Aside0 (Below w.heap.size w wc))
  case first =>
    have H := HC3.out
    clear HC3
    replace H := Option.bind_eq_some_iff.mp H
    obtain ⟨t102, A50, H⟩ := H
    replace H : (if t102 = true then (bitset_Select.j0 k a1 (decide (a1 < 0)) a0_0 l0_1) else (bitset_Select.j0 k a1 true a0_0 l0_1)) = some r := H
    have A5 := Aside0.mk A50
    clear A50
    by_cases c6 : t102 = true
    · subst c6
      have H1 : (bitset_Select.j0 k a1 (decide (a1 < 0)) a0_0 l0_1) = some r := by rw [if_pos rfl] at H; exact H
      clear H
      have H := H1
      clear H1
      have H' := Aside0.mk H
      clear H
      have hcz7_0 : w4.cell? ⟨gb101, 0, none⟩ = some (.int .i64 a0_0) := (blk_cell BK101.out 0).trans rfl
      have hcz7_1 : w4.cell? ⟨gb101, 1, none⟩ = some (.slice A0_1 l0_1.length c0_1) := (blk_cell BK101.out 1).trans rfl
      have hfz7_0 := blk_frozen BK101.out 0
      have hfz7_1 := blk_frozen BK101.out 1
      go_wp2_with (first | ((with_reducible refine gate_callee (f := 69) rfl ?_); refine goesL_ (some 9) rfl rfl Tryd.func69 (by kernel_rfl) rfl #[.agg #[.int .i64 a0_0, .slice A0_1 l0_1.length c0_1]] rfl (by (try simp only [List.map_toArray, List.map_cons, List.map_nil]); first | done | rfl | (simp only [List.length_drop, List.length_take]; rfl)) ?_; (with_reducible refine (bitset_May.calls a0_0 _ _ l0_1 true _ ?side1 ?side2 A5.out).mono ?_); (case side1 => repeat (first | exact (Kd.C_below HR0_1.out HB.out) | (with_reducible refine Kd.C_alloc ?_ _) | (with_reducible refine Kd.C_drewN ?_ _) | (with_reducible refine Kd.C_drew ?_))); (case side2 => exact HC0_1.out); rintro e w8 ⟨rfl, hb⟩; refine ⟨_, rfl, ?_⟩; have n0_ := Aside0.mk (blk_below (g := gb101) (o := .cells #[.int .i64 a0_0, .slice A0_1 l0_1.length c0_1] 24 (0, 0)) (by (with_reducible repeat (first | refine blk_drewN ?_ _ | refine blk_drew ?_ | refine blk_alloc ?_ _)); exact BK101.out) hb); have n1_ := Aside0.mk (below_step (by repeat (first | (with_reducible first | exact HB.out | apply below_alloc | apply pw_below_drewN | apply below_drew1 | refine below_set ?_ GE101.out) | exact HB.out)) hb); clear BK101; clear HB; have BK101 := n0_; have HB := n1_; clear n0_ n1_; (try clear hb); (try clear hb2); (try clear hk); (try clear hi)))
      go_meet
      case rel => exact ⟨_, (decide (a1 < 0)), (by first | rfl | (simp; done) | (simp [*]; done)), H', ⟨by first | omega | exact Nat.le_refl _⟩, ⟨by (with_reducible repeat (first | refine blk_drewN ?_ _ | refine blk_drew ?_ | refine blk_alloc ?_ _)); exact BK101.out⟩, ⟨by repeat (first | (with_reducible first | exact HB.out | apply below_alloc | apply pw_below_drewN | apply below_drew1 | refine below_set ?_ GE101.out) | exact HB.out)⟩⟩
    · replace c6 := Bool.eq_false_iff.mpr c6
      subst c6
      have H1 : (bitset_Select.j0 k a1 true a0_0 l0_1) = some r := by rw [if_neg (show ¬ (false = true) by decide)] at H; exact H
      clear H
      have H := H1
      clear H1
      have H' := Aside0.mk H
      clear H
      have hcz9_0 : w4.cell? ⟨gb101, 0, none⟩ = some (.int .i64 a0_0) := (blk_cell BK101.out 0).trans rfl
      have hcz9_1 : w4.cell? ⟨gb101, 1, none⟩ = some (.slice A0_1 l0_1.length c0_1) := (blk_cell BK101.out 1).trans rfl
      have hfz9_0 := blk_frozen BK101.out 0
      have hfz9_1 := blk_frozen BK101.out 1
      go_wp2_with (first | ((with_reducible refine gate_callee (f := 69) rfl ?_); refine goesL_ (some 9) rfl rfl Tryd.func69 (by kernel_rfl) rfl #[.agg #[.int .i64 a0_0, .slice A0_1 l0_1.length c0_1]] rfl (by (try simp only [List.map_toArray, List.map_cons, List.map_nil]); first | done | rfl | (simp only [List.length_drop, List.length_take]; rfl)) ?_; (with_reducible refine (bitset_May.calls a0_0 _ _ l0_1 false _ ?side1 ?side2 A5.out).mono ?_); (case side1 => repeat (first | exact (Kd.C_below HR0_1.out HB.out) | (with_reducible refine Kd.C_alloc ?_ _) | (with_reducible refine Kd.C_drewN ?_ _) | (with_reducible refine Kd.C_drew ?_))); (case side2 => exact HC0_1.out); rintro e w10 ⟨rfl, hb⟩; refine ⟨_, rfl, ?_⟩; have n0_ := Aside0.mk (blk_below (g := gb101) (o := .cells #[.int .i64 a0_0, .slice A0_1 l0_1.length c0_1] 24 (0, 0)) (by (with_reducible repeat (first | refine blk_drewN ?_ _ | refine blk_drew ?_ | refine blk_alloc ?_ _)); exact BK101.out) hb); have n1_ := Aside0.mk (below_step (by repeat (first | (with_reducible first | exact HB.out | apply below_alloc | apply pw_below_drewN | apply below_drew1 | refine below_set ?_ GE101.out) | exact HB.out)) hb); clear BK101; clear HB; have BK101 := n0_; have HB := n1_; clear n0_ n1_; (try clear hb); (try clear hb2); (try clear hk); (try clear hi)))
      go_meet
      case rel => exact ⟨_, (true), (by first | rfl | (simp; done) | (simp [*]; done)), H', ⟨by first | omega | exact Nat.le_refl _⟩, ⟨by (with_reducible repeat (first | refine blk_drewN ?_ _ | refine blk_drew ?_ | refine blk_alloc ?_ _)); exact BK101.out⟩, ⟨by repeat (first | (with_reducible first | exact HB.out | apply below_alloc | apply pw_below_drewN | apply below_drew1 | refine below_set ?_ GE101.out) | exact HB.out)⟩⟩
  case rest =>
    clear HC3
    try clear c2
    try clear p2
    try clear c6
    try clear hcz7_0
    try clear hcz7_1
    try clear hcz9_0
    try clear hcz9_1
    try clear hfz7_0
    try clear hfz7_1
    try clear hfz9_0
    try clear hfz9_1
    obtain ⟨kq, x14_2, rfl, HA, HJ2, BK101, HB⟩ := hcut
    cases kq with
    | zero => exact absurd HA.out (by simp [bitset_Select.j0])
    | succ kj2 =>
      have H := HA.out
      clear HA
      simp only [bitset_Select.j0] at H
      by_cases c11 : x14_2 = true
      · subst c11
        have H1 : (some (-1)) = some r := by rw [if_pos rfl] at H; exact H
        clear H
        have H := H1
        clear H1
        obtain rfl := Option.some.inj H
        go_wp2
        go_ret
        exact ⟨by first | rfl | (simp [errW_none, errW_some] <;> rfl) | (simp [*, errW_none, errW_some] <;> rfl), by repeat (first | (with_reducible first | exact HB.out | apply below_alloc | apply pw_below_drewN | apply below_drew1 | refine below_set ?_ GE101.out) | exact HB.out)⟩
      · replace c11 := Bool.eq_false_iff.mpr c11
        subst c11
        have H1 : (bitset_Select.l0 kj2 a1 l0_1 (l0_1.length : Int) 0) = some r := by rw [if_neg (show ¬ (false = true) by decide)] at H; exact H
        clear H
        have H := H1
        clear H1
        have H' := Aside0.mk H
        clear H
        have hcz12_0 : wc.cell? ⟨gb101, 0, none⟩ = some (.int .i64 a0_0) := (blk_cell BK101.out 0).trans rfl
        have hcz12_1 : wc.cell? ⟨gb101, 1, none⟩ = some (.slice A0_1 l0_1.length c0_1) := (blk_cell BK101.out 1).trans rfl
        have hfz12_0 := blk_frozen BK101.out 0
        have hfz12_1 := blk_frozen BK101.out 1
        go_wp2
        go_loopg [1, 18] kj2 (fun kq v1 v18 w' => ∃ (x1_2 : Int) (x18_2 : Int), v1 = .int .i64 x1_2 ∧ v18 = .int .i64 x18_2 ∧ Aside0 (bitset_Select.l0 kq x1_2 l0_1 (l0_1.length : Int) x18_2 = some r) ∧ Aside0 (kq ≤ kj2) ∧ Aside0 (w'.heap[gb101]? = some (.cells #[.int .i64 a0_0, (.slice A0_1 l0_1.length c0_1)] 24 (0, 0))) ∧ Aside0 (Below w.heap.size w w'))
        case atStart => exact ⟨(a1), (0), (by first | rfl | (simp; done) | (simp [*]; done)), (by first | rfl | (simp; done) | (simp [*]; done)), H', ⟨Nat.le_refl _⟩, ⟨by (with_reducible repeat (first | refine blk_drewN ?_ _ | refine blk_drew ?_ | refine blk_alloc ?_ _)); exact BK101.out⟩, ⟨by repeat (first | (with_reducible first | exact HB.out | apply below_alloc | apply pw_below_drewN | apply below_drew1 | refine below_set ?_ GE101.out) | exact HB.out)⟩⟩
        case round =>
          clear H'
          try clear c1
          try clear c2
          try clear p2
          try clear c6
          try clear c11
          try clear hcz12_0
          try clear hcz12_1
          try clear hcz7_0
          try clear hcz7_1
          try clear hcz9_0
          try clear hcz9_1
          try clear hfz12_0
          try clear hfz12_1
          try clear hfz7_0
          try clear hfz7_1
          try clear hfz9_0
          try clear hfz9_1
          try clear p2
          obtain ⟨x1_2, x18_2, rfl, rfl, HA, HK2, BK101, HB⟩ := hrel
          cases gk with
          | zero => exact absurd HA.out (by simp [bitset_Select.l0])
          | succ k2 =>
            have H := HA.out
            clear HA
            simp only [bitset_Select.l0] at H
            by_cases c13 : x18_2 < (l0_1.length : Int)
            · rw [if_pos c13] at H
              have c13b0 : decide (x18_2 < (l0_1.length : Int)) = true := decide_eq_true c13
              clear c13
              by_cases c14 : 0 ≤ x18_2
              · rw [if_pos c14] at H
                have c14b0 : decide (0 ≤ x18_2) = true := decide_eq_true c14
                clear c14
                by_cases c15 : x18_2 < (l0_1.length : Int)
                · rw [if_pos c15] at H
                  have c15b0 : decide (x18_2 < (l0_1.length : Int)) = true := decide_eq_true c15
                  clear c15
                  replace H := Option.bind_eq_some_iff.mp H
                  obtain ⟨t104, A160, H⟩ := H
                  replace H : (if x1_2 ≥ t104 then (bitset_Select.l0 k2 (wrap64 (x1_2 - t104)) l0_1 (l0_1.length : Int) (wrap64 (x18_2 + 1))) else (bitset_Select.l1 k2 x1_2 x18_2 (rd l0_1 x18_2))) = some r := H
                  have A16 := Aside0.mk A160
                  clear A160
                  by_cases c17 : x1_2 ≥ t104
                  · rw [if_pos c17] at H
                    have c17b0 : decide (t104 ≤ x1_2) = true := decide_eq_true c17
                    clear c17
                    have H' := Aside0.mk H
                    clear H
                    have p103 : 0 ≤ (x18_2 : Int) := of_decide_eq_true (by first | (with_reducible assumption) | assumption)
                    have q103 : x18_2 < (l0_1.length : Int) := of_decide_eq_true (by first | (with_reducible assumption) | assumption)
                    obtain ⟨ad103, e103, hx103_0⟩ := Kd.at_int HR0_1.out x18_2 p103 q103
                    cases e103
                    replace hx103_0 := (HB.out.cell (World.block_lt_of_cell? w _ hx103_0)).trans hx103_0
                    replace p103 := eq_true p103
                    replace q103 := eq_true q103
                    go_wp2_with (first | ((with_reducible refine gate_callee (f := 79) rfl ?_); refine goesL_ (some 24) rfl rfl Tryd.func79 (by kernel_rfl) rfl #[.int .u64 (rd l0_1 x18_2)] rfl (by (try simp only [List.map_toArray, List.map_cons, List.map_nil]); first | done | rfl | (simp only [List.length_drop, List.length_take]; rfl)) ?_; (with_reducible refine (bits_OnesCount64.calls (rd l0_1 x18_2) t104 _ A16.out).mono ?_); rintro e w' ⟨rfl, ⟨nd, rfl⟩⟩; refine ⟨_, rfl, ?_⟩))
                    go_roundg k2
                    case measure => have := HJ2.out; have := HK2.out; omega
                    case rel => exact ⟨(wrap64 (x1_2 - t104)), (wrap64 (x18_2 + 1)), (by first | rfl | (simp; done) | (simp [*]; done)), (by first | rfl | (simp; done) | (simp [*]; done)), H', ⟨by have := HJ2.out; have := HK2.out; omega⟩, ⟨by (with_reducible repeat (first | refine blk_drewN ?_ _ | refine blk_drew ?_ | refine blk_alloc ?_ _)); exact BK101.out⟩, ⟨by repeat (first | (with_reducible first | exact HB.out | apply below_alloc | apply pw_below_drewN | apply below_drew1 | refine below_set ?_ GE101.out) | exact HB.out)⟩⟩
                  · rw [if_neg c17] at H
                    have c17b0 : decide (t104 ≤ x1_2) = false := decide_eq_false c17
                    clear c17
                    have H' := Aside0.mk H
                    clear H
                    have p103 : 0 ≤ (x18_2 : Int) := of_decide_eq_true (by first | (with_reducible assumption) | assumption)
                    have q103 : x18_2 < (l0_1.length : Int) := of_decide_eq_true (by first | (with_reducible assumption) | assumption)
                    obtain ⟨ad103, e103, hx103_0⟩ := Kd.at_int HR0_1.out x18_2 p103 q103
                    cases e103
                    replace hx103_0 := (HB.out.cell (World.block_lt_of_cell? w _ hx103_0)).trans hx103_0
                    replace p103 := eq_true p103
                    replace q103 := eq_true q103
                    go_wp2_with (first | ((with_reducible refine gate_callee (f := 79) rfl ?_); refine goesL_ (some 24) rfl rfl Tryd.func79 (by kernel_rfl) rfl #[.int .u64 (rd l0_1 x18_2)] rfl (by (try simp only [List.map_toArray, List.map_cons, List.map_nil]); first | done | rfl | (simp only [List.length_drop, List.length_take]; rfl)) ?_; (with_reducible refine (bits_OnesCount64.calls (rd l0_1 x18_2) t104 _ A16.out).mono ?_); rintro e w' ⟨rfl, ⟨nd, rfl⟩⟩; refine ⟨_, rfl, ?_⟩))
                    go_loopg [1, 6] k2 (fun kq v1 v6 w' => ∃ (x1_3 : Int) (x6_3 : Int), v1 = .int .i64 x1_3 ∧ v6 = .int .u64 x6_3 ∧ Aside0 (bitset_Select.l1 kq x1_3 x18_2 x6_3 = some r) ∧ Aside0 (kq ≤ k2) ∧ Aside0 (w'.heap[gb101]? = some (.cells #[.int .i64 a0_0, (.slice (some ad103) l0_1.length c0_1)] 24 (0, 0))) ∧ Aside0 (Below w.heap.size w w'))
                    case atStart => exact ⟨(x1_2), (rd l0_1 x18_2), (by first | rfl | (simp; done) | (simp [*]; done)), (by first | rfl | (simp; done) | (simp [*]; done)), H', ⟨Nat.le_refl _⟩, ⟨by (with_reducible repeat (first | refine blk_drewN ?_ _ | refine blk_drew ?_ | refine blk_alloc ?_ _)); exact BK101.out⟩, ⟨by repeat (first | (with_reducible first | exact HB.out | apply below_alloc | apply pw_below_drewN | apply below_drew1 | refine below_set ?_ GE101.out) | exact HB.out)⟩⟩
                    case round =>
                      clear H'
                      try clear c1
                      try clear p1
                      try clear q1
                      try clear hx1
                      try clear c2
                      try clear p2
                      try clear c6
                      try clear p6
                      try clear c7
                      try clear p10
                      try clear q10
                      try clear hx10
                      try clear c11
                      try clear c13
                      try clear c13b0
                      try clear c14
                      try clear c14b0
                      try clear c15
                      try clear c15b0
                      try clear c17
                      try clear c17b0
                      try clear hcz12_0
                      try clear hcz12_1
                      try clear hcz7_0
                      try clear hcz7_1
                      try clear hcz9_0
                      try clear hcz9_1
                      try clear hfz12_0
                      try clear hfz12_1
                      try clear hfz7_0
                      try clear hfz7_1
                      try clear hfz9_0
                      try clear hfz9_1
                      try clear hx103_0
                      try clear p103
                      try clear p2
                      try clear q103
                      obtain ⟨x1_3, x6_3, rfl, rfl, HA, HK3, BK101, HB⟩ := hrel
                      cases gk with
                      | zero => exact absurd HA.out (by simp [bitset_Select.l1])
                      | succ k3 =>
                        have H := HA.out
                        clear HA
                        simp only [bitset_Select.l1] at H
                        by_cases c18 : x1_3 > 0
                        · rw [if_pos c18] at H
                          have c18b0 : decide (0 < x1_3) = true := decide_eq_true c18
                          clear c18
                          have H' := Aside0.mk H
                          clear H
                          go_wp2
                          go_roundg k3
                          case measure => have := HJ2.out; have := HK2.out; have := HK3.out; omega
                          case rel => exact ⟨(wrap64 (x1_3 - 1)), (Go.bits .and .u64 x6_3 (IntKind.u64.wrap (x6_3 - 1))), (by first | rfl | (simp; done) | (simp [*]; done)), (by first | rfl | (simp; done) | (simp [*]; done)), H', ⟨by have := HJ2.out; have := HK2.out; have := HK3.out; omega⟩, ⟨by (with_reducible repeat (first | refine blk_drewN ?_ _ | refine blk_drew ?_ | refine blk_alloc ?_ _)); exact BK101.out⟩, ⟨by repeat (first | (with_reducible first | exact HB.out | apply below_alloc | apply pw_below_drewN | apply below_drew1 | refine below_set ?_ GE101.out) | exact HB.out)⟩⟩
                        · rw [if_neg c18] at H
                          have c18b0 : decide (0 < x1_3) = false := decide_eq_false c18
                          clear c18
                          replace H := Option.bind_eq_some_iff.mp H
                          obtain ⟨t105, A190, H⟩ := H
                          replace H : (some (wrap64 ((wrap64 (x18_2 * 64)) + t105))) = some r := H
                          have A19 := Aside0.mk A190
                          clear A190
                          obtain rfl := Option.some.inj H
                          go_wp2_with (first | ((with_reducible refine gate_callee (f := 80) rfl ?_); refine goesL_ (some 42) rfl rfl Tryd.func80 (by kernel_rfl) rfl #[.int .u64 x6_3] rfl (by (try simp only [List.map_toArray, List.map_cons, List.map_nil]); first | done | rfl | (simp only [List.length_drop, List.length_take]; rfl)) ?_; (with_reducible refine (bits_TrailingZeros64.calls x6_3 t105 _ ?side1 A19.out).mono ?_); (case side1 => first | exact HG.out | exact tz_at HG.out (by repeat (first | (with_reducible first | exact HB.out | apply below_alloc | apply pw_below_drewN | apply below_drew1 | refine below_set ?_ GE101.out) | exact HB.out))); rintro e w' ⟨rfl, ⟨nd, rfl⟩⟩; refine ⟨_, rfl, ?_⟩))
                          go_ret
                          exact ⟨by first | rfl | (simp [errW_none, errW_some] <;> rfl) | (simp [*, errW_none, errW_some] <;> rfl), by repeat (first | (with_reducible first | exact HB.out | apply below_alloc | apply pw_below_drewN | apply below_drew1 | refine below_set ?_ GE101.out) | exact HB.out)⟩
                · rw [if_neg c15] at H
                  exact absurd H (by simp)
              · rw [if_neg c14] at H
                exact absurd H (by simp)
            · rw [if_neg c13] at H
              have c13b0 : decide (x18_2 < (l0_1.length : Int)) = false := decide_eq_false c13
              clear c13
              obtain rfl := Option.some.inj H
              go_wp2
              go_ret
              exact ⟨by first | rfl | (simp [errW_none, errW_some] <;> rfl) | (simp [*, errW_none, errW_some] <;> rfl), by repeat (first | (with_reducible first | exact HB.out | apply below_alloc | apply pw_below_drewN | apply below_drew1 | refine below_set ?_ GE101.out) | exact HB.out)⟩
end Go.Proofs.YtjmkhdhffmlhiaaDoor.PAll
end
section
namespace Go.Proofs.YtjmkhdhffmlhiaaDoor.PAll
open Go.RowKit Go.Proofs.YtjmkhdhffmlhiaaDoorW.PrintWords Go.Proofs.YtjmkhdhffmlhiaaDoorW.PrintLast Go.Proofs.YtjmkhdhffmlhiaaDoorW.PrintMore
attribute [local go_sem] max2_int min2_int max_two min_two max_three min_three max_four min_four w64_u8 w64_mod256   -- for this text's walks alone
set_option linter.unusedVariables false
set_option linter.unusedSimpArgs false
def bitset_Next.f (k : Nat) (a0_0 : Int) (l0_1 : List Int) (a1 : Int) : Option (Int) := (bitset_Rank.f k a0_0 l0_1 a1).bind fun t102 => ((bitset_Select.f k a0_0 l0_1 t102).bind fun t103 => (some t103))
set_option maxHeartbeats 8000000 in
set_option maxRecDepth 100000 in
theorem bitset_Next.calls (k : Nat) (a0_0 : Int) (A0_1 : Option Addr) (c0_1 : Nat) (l0_1 : List Int) (a1 : Int) (r : Int) (w : World) (hr0_1 : Kd.C (Kd.int .u64) w A0_1 l0_1.length l0_1) (hc0_1 : l0_1.length ≤ c0_1) (hG : Tz w) (h : bitset_Next.f k a0_0 l0_1 a1 = some r) :
    Calls Tryd.prog 29 #[.agg #[.int .i64 a0_0, .slice A0_1 l0_1.length c0_1], .int .i64 a1] w fun e w' => e = .returned (.int .i64 r) ∧ Below w.heap.size w w' := by
  have hu24 := Tryd.underlying24
  have HR0_1 := Aside0.mk hr0_1
  have HC0_1 := Aside0.mk hc0_1
  clear hr0_1 hc0_1
  have HB := Aside0.mk (Below.refl w.heap.size w)
  have HG := Aside0.mk hG
  clear hG
  have H : ((bitset_Rank.f k a0_0 l0_1 a1).bind fun t102 => ((bitset_Select.f k a0_0 l0_1 t102).bind fun t103 => (some t103))) = some r := h
  clear h
  replace H := Option.bind_eq_some_iff.mp H
  obtain ⟨t102, A30, H⟩ := H
  replace H : ((bitset_Select.f k a0_0 l0_1 t102).bind fun t103 => (some t103)) = some r := H
  have A3 := Aside0.mk A30
  clear A30
  replace H := Option.bind_eq_some_iff.mp H
  obtain ⟨t103, A40, H⟩ := H
  replace H : (some t103) = some r := H
  have A4 := Aside0.mk A40
  clear A40
  obtain rfl := Option.some.inj H
  go_enter Tryd.func29, Tryd.ntmps29
  try go_wp2_with (first | ((with_reducible refine gate_dst (N := 2) rfl ?_); refine box_event ?hg (N := 2) ?hd (cs := #[.int .i64 a0_0, .slice A0_1 l0_1.length c0_1]) (t := 24) ?hr ?_; (case hd => rfl); (case hg => rfl); (case hr => first | (go_simp; done) | (go_simp; rfl)); intro gb101 hg w5 hbox hb; have n0_ := Aside0.mk (below_step (by repeat (first | (with_reducible first | exact HB.out | apply below_alloc | apply pw_below_drewN | apply below_drew1) | exact HB.out)) hb); have n1_ := Aside0.mk (hbox); have n2_ := Aside0.mk ((by rw [hg]; exact (below_size (by repeat (first | (with_reducible first | exact HB.out | apply below_alloc | apply pw_below_drewN | apply below_drew1) | exact HB.out))) : w.heap.size ≤ gb101)); have n3_ := Aside0.mk ((by rw [hg]; exact (below_size (by repeat (first | (with_reducible first | exact HB.out | apply below_alloc | apply pw_below_drewN | apply below_drew1) | exact HB.out))) : w.heap.size ≤ gb101)); clear HB; have HB := n0_; have BK101 := n1_; have GW101 := n2_; have GE101 := n3_; clear n0_ n1_ n2_ n3_; clear hb hbox hg))
  have n0_ := Aside0.mk (blk_drew BK101.out)
  have n1_ := Aside0.mk (below_drew1 HB.out)
  clear BK101
  clear HB
  have BK101 := n0_
  have HB := n1_
  clear n0_ n1_
  refine start_ (n := 6) (S := fun w' => w'.cell? ⟨gb101, 0, none⟩ = some (.int .i64 a0_0) ∧ w'.cell? ⟨gb101, 1, none⟩ = some (.slice A0_1 l0_1.length c0_1)) (ds := []) #[false, false, false, false, false, false] (by kernel_rfl) rfl rfl ⟨(blk_cell BK101.out 0).trans rfl, (blk_cell BK101.out 1).trans rfl⟩ (fun hHeld => ?_)
  generalize w5.drew = w6 at BK101 HB hHeld ⊢
  refine pure_ (i := 2) (N := some 7) (v := ?_) (a' := ?_) #[false, false, true, false, false, false] rfl rfl (by kernel_rfl) (fun _ _ _ h => h) (Or.inl ⟨by rfl, ?_⟩) ?_ ?_
  rotate_left
  · intro w'
    go_simp
    with_reducible rfl
  rotate_left
  · simp only [Act.put, List.setIfInBounds_toArray, List.set_cons_zero, List.set_cons_succ, i64_w, i32_w]
    rfl
  refine take_ (i := 0) (N := some 5) (v := ?_) (a' := ?_) #[true, false, true, false, false, false] rfl rfl (by kernel_rfl) (fun _ _ _ h => h) (Or.inl ⟨by rfl, ?_⟩) hHeld ?_ ?_
  rotate_left
  · rintro w' ⟨s0, s1⟩
    go_simp
    with_reducible rfl
  rotate_left
  · simp only [Act.put, List.setIfInBounds_toArray, List.set_cons_zero, List.set_cons_succ, i64_w, i32_w]
    rfl
  refine take_ (i := 1) (N := some 6) (v := ?_) (a' := ?_) #[true, true, true, false, false, false] rfl rfl (by kernel_rfl) (fun _ _ _ h => h) (Or.inl ⟨by rfl, ?_⟩) hHeld ?_ ?_
  rotate_left
  · rintro w' ⟨s0, s1⟩
    go_simp
    with_reducible rfl
  rotate_left
  · simp only [Act.put, List.setIfInBounds_toArray, List.set_cons_zero, List.set_cons_succ, i64_w, i32_w]
    rfl
  refine one_ (i := 3) (N := some 8) #[true, true, true, true, false, false] rfl rfl (by kernel_rfl) (by decide) (fun K hK => ?_)
  refine goes_ Tryd.func25 (by kernel_rfl) rfl #[.agg #[.int .i64 a0_0, .slice A0_1 l0_1.length c0_1], .int .i64 a1] (by rfl) rfl rfl (by (try simp only [List.map_toArray, List.map_cons, List.map_nil]); first | done | rfl | (simp only [List.length_drop, List.length_take]; rfl)) ?_
  with_reducible refine (bitset_Rank.calls k a0_0 _ _ l0_1 a1 t102 _ ?side1 ?side2 A3.out).mono ?_
  (case side1 => repeat (first | exact (Kd.C_below HR0_1.out HB.out) | (with_reducible refine Kd.C_alloc ?_ _) | (with_reducible refine Kd.C_drewN ?_ _) | (with_reducible refine Kd.C_drew ?_)))
  (case side2 => exact HC0_1.out)
  rintro e w7 ⟨rfl, hb⟩
  refine ⟨_, rfl, ?_⟩
  have n0_ := Aside0.mk (blk_below (g := gb101) (o := .cells #[.int .i64 a0_0, .slice A0_1 l0_1.length c0_1] 24 (0, 0)) (by (with_reducible repeat (first | refine blk_drewN ?_ _ | refine blk_drew ?_ | refine blk_alloc ?_ _)); exact BK101.out) hb)
  have n1_ := Aside0.mk (below_step (by repeat (first | (with_reducible first | exact HB.out | apply below_alloc | apply pw_below_drewN | apply below_drew1 | refine below_set ?_ GE101.out) | exact HB.out)) hb)
  clear BK101
  clear HB
  have BK101 := n0_
  have HB := n1_
  clear n0_ n1_
  (try clear hb)
  (try clear hb2)
  (try clear hk)
  (try clear hi)
  refine hK.out _ _ ⟨(blk_cell BK101.out 0).trans rfl, (blk_cell BK101.out 1).trans rfl⟩ (fun hHeld => ?_)
  clear hK K
  refine norm_ (a' := ?_) ?_ ?_
  rotate_left
  · show Act.put _ (some 8) _ = _
    simp only [Act.put, List.setIfInBounds_toArray, List.set_cons_zero, List.set_cons_succ, i64_w, i32_w]
    rfl
  refine one_ (i := 4) (N := some 9) #[true, true, true, true, true, false] rfl rfl (by kernel_rfl) (by decide) (fun K hK => ?_)
  refine goes_ Tryd.func27 (by kernel_rfl) rfl #[.agg #[.int .i64 a0_0, .slice A0_1 l0_1.length c0_1], .int .i64 t102] (by rfl) rfl rfl (by (try simp only [List.map_toArray, List.map_cons, List.map_nil]); first | done | rfl | (simp only [List.length_drop, List.length_take]; rfl)) ?_
  with_reducible refine (bitset_Select.calls k a0_0 _ _ l0_1 t102 t103 _ ?side1 ?side2 ?side3 A4.out).mono ?_
  (case side1 => repeat (first | exact (Kd.C_below HR0_1.out HB.out) | (with_reducible refine Kd.C_alloc ?_ _) | (with_reducible refine Kd.C_drewN ?_ _) | (with_reducible refine Kd.C_drew ?_)))
  (case side2 => exact HC0_1.out)
  (case side3 => first | exact HG.out | exact tz_at HG.out (by repeat (first | (with_reducible first | exact HB.out | apply below_alloc | apply pw_below_drewN | apply below_drew1 | refine below_set ?_ GE101.out) | exact HB.out)))
  rintro e w8 ⟨rfl, hb⟩
  refine ⟨_, rfl, ?_⟩
  have n0_ := Aside0.mk (blk_below (g := gb101) (o := .cells #[.int .i64 a0_0, .slice A0_1 l0_1.length c0_1] 24 (0, 0)) (by (with_reducible repeat (first | refine blk_drewN ?_ _ | refine blk_drew ?_ | refine blk_alloc ?_ _)); exact BK101.out) hb)
  have n1_ := Aside0.mk (below_step (by repeat (first | (with_reducible first | exact HB.out | apply below_alloc | apply pw_below_drewN | apply below_drew1 | refine below_set ?_ GE101.out) | exact HB.out)) hb)
  clear BK101
  clear HB
  have BK101 := n0_
  have HB := n1_
  clear n0_ n1_
  (try clear hb)
  (try clear hb2)
  (try clear hk)
  (try clear hi)
  refine hK.out _ _ ⟨(blk_cell BK101.out 0).trans rfl, (blk_cell BK101.out 1).trans rfl⟩ (fun hHeld => ?_)
  clear hK K
  refine norm_ (a' := ?_) ?_ ?_
  rotate_left
  · show Act.put _ (some 9) _ = _
    simp only [Act.put, List.setIfInBounds_toArray, List.set_cons_zero, List.set_cons_succ, i64_w, i32_w]
    rfl
  refine pure_ (i := 5) (N := some 4) (v := ?_) (a' := ?_) #[true, true, true, true, true, true] rfl rfl (by kernel_rfl) (fun _ _ _ h => h) (Or.inl ⟨by rfl, ?_⟩) ?_ ?_
  rotate_left
  · intro w'
    go_simp
    with_reducible rfl
  rotate_left
  · simp only [Act.put, List.setIfInBounds_toArray, List.set_cons_zero, List.set_cons_succ, i64_w, i32_w]
    rfl
  refine done_ (by kernel_rfl) ?_
  try go_wp2
  go_ret
  exact ⟨by first | rfl | (simp [errW_none, errW_some] <;> rfl) | (simp [*, errW_none, errW_some] <;> rfl), by repeat (first | (with_reducible first | exact HB.out | apply below_alloc | apply pw_below_drewN | apply below_drew1 | refine below_set ?_ GE101.out) | exact HB.out)⟩
end Go.Proofs.YtjmkhdhffmlhiaaDoor.PAll
end
section
namespace Go.Proofs.YtjmkhdhffmlhiaaDoor.PAll
open Go.RowKit Go.Proofs.YtjmkhdhffmlhiaaDoorW.PrintWords Go.Proofs.YtjmkhdhffmlhiaaDoorW.PrintLast Go.Proofs.YtjmkhdhffmlhiaaDoorW.PrintMore
attribute [local go_sem] max2_int min2_int max_two min_two max_three min_three max_four min_four w64_u8 w64_mod256   -- for this text's walks alone
set_option linter.unusedVariables false
set_option linter.unusedSimpArgs false
end Go.Proofs.YtjmkhdhffmlhiaaDoor.PAll
end
section
namespace Go.Proofs.YtjmkhdhffmlhiaaDoor.PAll
open Go.RowKit Go.Proofs.YtjmkhdhffmlhiaaDoorW.PrintWords Go.Proofs.YtjmkhdhffmlhiaaDoorW.PrintLast Go.Proofs.YtjmkhdhffmlhiaaDoorW.PrintMore
attribute [local go_sem] max2_int min2_int max_two min_two max_three min_three max_four min_four w64_u8 w64_mod256   -- for this text's walks alone
set_option linter.unusedVariables false
set_option linter.unusedSimpArgs false
def bitset_has.f (a0_0 : Int) (l0_1 : List Int) (a1 : Int) : Option (Bool) := if 0 ≤ (wrap64 (Int.tdiv a1 64)) then (if (wrap64 (Int.tdiv a1 64)) < (l0_1.length : Int) then (if 0 ≤ (Int.tmod a1 64) then (some ((Go.bits .and .u64 (shr .u64 (rd l0_1 (wrap64 (Int.tdiv a1 64))) (Int.tmod a1 64)) 1) == 1)) else (none)) else (none)) else (none)
set_option maxHeartbeats 8000000 in
set_option maxRecDepth 100000 in
theorem bitset_has.calls (a0_0 : Int) (A0_1 : Option Addr) (c0_1 : Nat) (l0_1 : List Int) (a1 : Int) (r : Bool) (w : World) (hr0_1 : Kd.C (Kd.int .u64) w A0_1 l0_1.length l0_1) (hc0_1 : l0_1.length ≤ c0_1) (h : bitset_has.f a0_0 l0_1 a1 = some r) :
    Calls Tryd.prog 77 #[.agg #[.int .i64 a0_0, .slice A0_1 l0_1.length c0_1], .int .i64 a1] w fun e w' => e = .returned (.bool r) ∧ Below w.heap.size w w' := by
  have hu24 := Tryd.underlying24
  have HR0_1 := Aside0.mk hr0_1
  have HC0_1 := Aside0.mk hc0_1
  clear hr0_1 hc0_1
  have HB := Aside0.mk (Below.refl w.heap.size w)
  have H : (if 0 ≤ (wrap64 (Int.tdiv a1 64)) then (if (wrap64 (Int.tdiv a1 64)) < (l0_1.length : Int) then (if 0 ≤ (Int.tmod a1 64) then (some ((Go.bits .and .u64 (shr .u64 (rd l0_1 (wrap64 (Int.tdiv a1 64))) (Int.tmod a1 64)) 1) == 1)) else (none)) else (none)) else (none)) = some r := h
  clear h
  obtain ⟨ji3, hji3⟩ : ∃ j_ : Int, (wrap64 (Int.tdiv a1 64)) = j_ := ⟨_, rfl⟩
  replace H : (if 0 ≤ (ji3) then (if (ji3) < (l0_1.length : Int) then (if 0 ≤ (Int.tmod a1 64) then (some ((Go.bits .and .u64 (shr .u64 (rd l0_1 (ji3)) (Int.tmod a1 64)) 1) == 1)) else (none)) else (none)) else (none)) = some r := by first | (rw [hji3] at H; exact H) | (simp only [hji3] at H ⊢; exact H)
  have hji3w : (IntKind.i64.wrap (Int.tdiv a1 64)) = ji3 := (i64_w _).trans hji3
  by_cases c4 : 0 ≤ (ji3)
  · rw [if_pos c4] at H
    have c4b0 : decide (0 ≤ (ji3)) = true := decide_eq_true c4
    clear c4
    by_cases c5 : (ji3) < (l0_1.length : Int)
    · rw [if_pos c5] at H
      have c5b0 : decide ((ji3) < (l0_1.length : Int)) = true := decide_eq_true c5
      clear c5
      obtain ⟨ji6, hji6⟩ : ∃ j_ : Int, (Int.tmod a1 64) = j_ := ⟨_, rfl⟩
      replace H : (if 0 ≤ (ji6) then (some ((Go.bits .and .u64 (shr .u64 (rd l0_1 (ji3)) (ji6)) 1) == 1)) else (none)) = some r := by first | (rw [hji6] at H; exact H) | (simp only [hji6] at H ⊢; exact H)
      by_cases c7 : 0 ≤ (ji6)
      · rw [if_pos c7] at H
        have c7b0 := eq_true c7
        have c7b1 : decide (0 ≤ (ji6)) = true := decide_eq_true c7
        clear c7
        obtain ⟨ji8, hji8⟩ : ∃ j_ : Int, (shr .u64 (rd l0_1 (ji3)) (ji6)) = j_ := ⟨_, rfl⟩
        replace H : (some ((Go.bits .and .u64 (ji8) 1) == 1)) = some r := by first | (rw [hji8] at H; exact H) | (simp only [hji8] at H ⊢; exact H)
        have hji8_ : ((rd l0_1 (ji3)) / 2 ^ min (ji6).toNat 64) = ji8 := hji8
        have hji8z : (ji6) ≤ 64 → ((rd l0_1 (ji3)) / 2 ^ (ji6).toNat) = ji8 := shr_small hji8
        obtain rfl := Option.some.inj H
        go_enter Tryd.func77, Tryd.ntmps77
        go_wp2_with (first | ((with_reducible refine gate_dst (N := 2) rfl ?_); refine box_event ?hg (N := 2) ?hd (cs := #[.int .i64 a0_0, .slice A0_1 l0_1.length c0_1]) (t := 24) ?hr ?_; (case hd => rfl); (case hg => rfl); (case hr => first | (go_simp; done) | (go_simp; rfl)); intro gb101 hg w9 hbox hb; have n0_ := Aside0.mk (below_step (by repeat (first | (with_reducible first | exact HB.out | apply below_alloc | apply pw_below_drewN | apply below_drew1) | exact HB.out)) hb); have n1_ := Aside0.mk (hbox); have n2_ := Aside0.mk ((by rw [hg]; exact (below_size (by repeat (first | (with_reducible first | exact HB.out | apply below_alloc | apply pw_below_drewN | apply below_drew1) | exact HB.out))) : w.heap.size ≤ gb101)); have n3_ := Aside0.mk ((by rw [hg]; exact (below_size (by repeat (first | (with_reducible first | exact HB.out | apply below_alloc | apply pw_below_drewN | apply below_drew1) | exact HB.out))) : w.heap.size ≤ gb101)); clear HB; have HB := n0_; have BK101 := n1_; have GW101 := n2_; have GE101 := n3_; clear n0_ n1_ n2_ n3_; clear hb hbox hg; have hcz10_0 : w9.cell? ⟨gb101, 0, none⟩ = some (.int .i64 a0_0) := (blk_cell BK101.out 0).trans rfl; have hcz10_1 : w9.cell? ⟨gb101, 1, none⟩ = some (.slice A0_1 l0_1.length c0_1) := (blk_cell BK101.out 1).trans rfl; have hfz10_0 := blk_frozen BK101.out 0; have hfz10_1 := blk_frozen BK101.out 1; have p102 : 0 ≤ ((ji3) : Int) := of_decide_eq_true (by first | (with_reducible assumption) | assumption); have q102 : (ji3) < (l0_1.length : Int) := of_decide_eq_true (by first | (with_reducible assumption) | assumption); obtain ⟨ad102, e102, hx102_0⟩ := Kd.at_int HR0_1.out (ji3) p102 q102; cases e102; replace hx102_0 := (HB.out.cell (World.block_lt_of_cell? w _ hx102_0)).trans hx102_0; replace p102 := eq_true p102; replace q102 := eq_true q102))
        go_ret
        exact ⟨by first | rfl | (simp [errW_none, errW_some] <;> rfl) | (simp only [← hji3, ← hji6, ← hji8]; first | rfl | (simp [errW_none, errW_some] <;> rfl)) | (simp [*, errW_none, errW_some] <;> rfl), by repeat (first | (with_reducible first | exact HB.out | apply below_alloc | apply pw_below_drewN | apply below_drew1 | refine below_set ?_ GE101.out) | exact HB.out)⟩
      · rw [if_neg c7] at H
        exact absurd H (by simp)
    · rw [if_neg c5] at H
      exact absurd H (by simp)
  · rw [if_neg c4] at H
    exact absurd H (by simp)
end Go.Proofs.YtjmkhdhffmlhiaaDoor.PAll
end
section
namespace Go.Proofs.YtjmkhdhffmlhiaaDoor.PAll
open Go.RowKit Go.Proofs.YtjmkhdhffmlhiaaDoorW.PrintWords Go.Proofs.YtjmkhdhffmlhiaaDoorW.PrintLast Go.Proofs.YtjmkhdhffmlhiaaDoorW.PrintMore
attribute [local go_sem] max2_int min2_int max_two min_two max_three min_three max_four min_four w64_u8 w64_mod256   -- for this text's walks alone
set_option linter.unusedVariables false
set_option linter.unusedSimpArgs false
end Go.Proofs.YtjmkhdhffmlhiaaDoor.PAll
end
section
namespace Go.Proofs.YtjmkhdhffmlhiaaDoor.PAll
set_option linter.unusedVariables false
open Go.RowKit Go.Proofs.YtjmkhdhffmlhiaaDoorW.PrintWords Go.Proofs.YtjmkhdhffmlhiaaDoorW.PrintMore
def rk (ws : List Int) (e : Nat) : Nat := (List.range e).countP (hb ws)
theorem rk_succ (ws : List Int) (e : Nat) : rk ws (e + 1) = rk ws e + (if hb ws e = true then 1 else 0) := by
  unfold rk
  rw [List.range_succ, List.countP_append]
  simp [List.countP_cons]
theorem rk_mono (ws : List Int) {d e : Nat} (h : d ≤ e) : rk ws d ≤ rk ws e := by
  induction e with
  | zero => have : d = 0 := by omega
            subst this; exact Nat.le_refl _
  | succ e ih =>
    rcases Nat.lt_or_ge d (e + 1) with h1 | h1
    · have := ih (by omega); rw [rk_succ]; omega
    · have : d = e + 1 := by omega
      subst this; exact Nat.le_refl _
theorem rk_lt (ws : List Int) {d e : Nat} (h : d < e) (hd : hb ws d = true) : rk ws d < rk ws e := by
  have h1 := rk_succ ws d
  rw [if_pos hd] at h1
  have := rk_mono ws (show d + 1 ≤ e from h)
  omega
theorem rk_le (ws : List Int) (e : Nat) : rk ws e ≤ e := by
  have := List.countP_le_length (p := hb ws) (l := List.range e)
  rwa [List.length_range] at this
theorem rk_add (ws : List Int) (i r : Nat) (hr : r ≤ 64) : rk ws (64 * i + r) = rk ws (64 * i) + (List.range r).countP (tb (ws.getD i 0)) := by
  unfold rk
  rw [List.range_add, List.countP_append, List.countP_map]
  congr 1
  refine List.countP_congr fun j hj => ?_
  have hj := List.mem_range.1 hj
  simp only [Function.comp]
  unfold hb
  rw [show (64 * i + j) / 64 = i by omega, show (64 * i + j) % 64 = j by omega]
theorem cnt_snoc (l : List Int) (x : Int) : cnt (l ++ [x]) = cnt l + pc x.toNat := by
  unfold cnt
  rw [List.map_append, List.sum_append, List.map_cons, List.map_nil, List.sum_cons, List.sum_nil, Nat.add_zero]
theorem cnt_take (ws : List Int) : ∀ i, i ≤ ws.length → cnt (ws.take i) = rk ws (64 * i)
  | 0, _ => by simp [cnt, rk]
  | i + 1, h => by
    have h1 := cnt_take ws i (by omega)
    have hlt : i < ws.length := by omega
    rw [List.take_succ_eq_append_getElem hlt]
    rw [cnt_snoc, h1, show 64 * (i + 1) = 64 * i + 64 by omega, rk_add ws i 64 (Nat.le_refl _), pc_countP, List.getD_eq_getElem?_getD, List.getElem?_eq_getElem hlt]
    rfl
theorem rk_all {N : Nat} {ws : List Int} (h : MayP (N : Int) ws) : cnt ws = rk ws N := by
  have h1 := cnt_take ws ws.length (Nat.le_refl _)
  rw [List.take_length] at h1
  rw [h1]
  have h2 : N ≤ 64 * ws.length := by have := h.2.2.1; rw [Int.toNat_natCast] at this; omega
  have key : ∀ d, rk ws (N + d) = rk ws N := by
    intro d
    induction d with
    | zero => rfl
    | succ d ih =>
      rw [← Nat.add_assoc, rk_succ, ih, h.2.2.2 (N + d) (by rw [Int.toNat_natCast]; omega)]
      simp
  have := key (64 * ws.length - N)
  rwa [Nat.add_sub_cancel' h2] at this
theorem pc_low {x : Int} (hx : Wd x) {r : Nat} (hr : r < 64) : bits_OnesCount64.f (Go.bits .and .u64 x (IntKind.u64.wrap ((shl .u64 1 (r : Int)) - 1))) = some (((List.range r).countP (tb x) : Nat) : Int) := by
  have h1 := (one_shl (e := (r : Int)) (by omega) (by omega)).1
  have hp : (2 : Nat) ^ r < 2 ^ 64 := Nat.pow_lt_pow_right (by omega) hr
  have hp0 : 0 < (2 : Nat) ^ r := Nat.two_pow_pos r
  have h2 : IntKind.u64.wrap ((shl .u64 1 (r : Int)) - 1) = ((2 ^ r - 1 : Nat) : Int) := by
    rw [h1, Int.toNat_natCast, show (((2 ^ r : Nat) : Int) - 1) = ((2 ^ r - 1 : Nat) : Int) by omega]
    exact wrap_nat _ (by omega)
  have hm : Wd ((2 ^ r - 1 : Nat) : Int) := Wd.of (by omega)
  rw [h2, ones_eq (and_eq _ _).2, pc_countP]
  congr 2
  have h3 : ∀ j, tb (Go.bits .and .u64 x ((2 ^ r - 1 : Nat) : Int)) j = (tb x j && decide (j < r)) := fun j => by
    rw [tb_and hx hm]
    congr 1
    unfold tb
    rw [Int.toNat_natCast, Nat.testBit_two_pow_sub_one]
  rw [show (64 : Nat) = r + (64 - r) by omega, List.range_add, List.countP_append, List.countP_map]
  have h4 : (List.range r).countP (tb (Go.bits .and .u64 x ((2 ^ r - 1 : Nat) : Int))) = (List.range r).countP (tb x) := by
    refine List.countP_congr fun j hj => ?_
    rw [h3, decide_eq_true (List.mem_range.1 hj), Bool.and_true]
  have h5 : (List.range (64 - r)).countP (tb (Go.bits .and .u64 x ((2 ^ r - 1 : Nat) : Int)) ∘ fun x => r + x) = 0 := by
    rw [List.countP_eq_zero]
    intro j _
    simp only [Function.comp]
    rw [h3, decide_eq_false (by omega), Bool.and_false]
    simp
  rw [h4, h5, Nat.add_zero]
theorem Rank_l0 (N : Nat) (hN : N ≤ 4096) (ws : List Int) (hw : Wds ws) (hl : ws.length = (N + 63) / 64) (c : Nat) (hc : c ≤ N) : ∀ d i s : Nat, i + d = c / 64 → s = cnt (ws.take i) →
    Ev (fun k => bitset_Rank.l0 k (c : Int) (s : Int) (ws.take (c / 64)) ((ws.take (c / 64)).length : Int) (i : Int) (N : Int) ws) (rk ws c : Int) := by
  have hq : c / 64 ≤ ws.length := by omega
  have hlen : (ws.take (c / 64)).length = c / 64 := by rw [List.length_take]; omega
  intro d
  induction d with
  | zero =>
    intro i s hi hs
    have hi' : i = c / 64 := by omega
    subst hi'
    rw [cnt_take ws _ hq] at hs
    by_cases hr : c % 64 = 0
    · refine Ev.step (f := fun _ => some (rk ws c : Int)) (fun k => ?_) (Ev.now _)
      rw [bitset_Rank.l0]
      rw [hlen, if_neg (by omega), if_pos (by rw [tmod_nat]; omega), hs, show 64 * (c / 64) = c by omega]
    · have hlt : c / 64 < ws.length := by omega
      have hwx := hw _ (List.getElem_mem hlt)
      have h4 : rd ws ((c / 64 : Nat) : Int) = ws[c / 64] := by rw [rd_nat, List.getD_eq_getElem?_getD, List.getElem?_eq_getElem hlt]; rfl
      have h5 := rk_add ws (c / 64) (c % 64) (by omega)
      rw [show 64 * (c / 64) + c % 64 = c by omega, List.getD_eq_getElem?_getD, List.getElem?_eq_getElem hlt] at h5
      have h6 := rk_le ws c
      refine Ev.step (f := fun _ => some (rk ws c : Int)) (fun k => ?_) (Ev.now _)
      rw [bitset_Rank.l0]
      rw [hlen, if_neg (by omega), tmod_nat, tdiv_nat, w64_nat (n := ((c / 64 : Nat) : Int)) (by omega) (by omega), if_neg (by omega), if_pos (by omega), if_pos (by omega), if_pos (by omega), h4, pc_low hwx (by omega), Option.bind_some]
      rw [h5] at h6 ⊢
      rw [hs]
      congr 1
      change wrap64 (((rk ws (64 * (c / 64)) : Nat) : Int) + (((List.range (c % 64)).countP (tb ws[c / 64]) : Nat) : Int)) = ((rk ws (64 * (c / 64)) + (List.range (c % 64)).countP (tb ws[c / 64]) : Nat) : Int)
      change rk ws (64 * (c / 64)) + (List.range (c % 64)).countP (tb ws[c / 64]) ≤ c at h6
      rw [w64_nat (by omega) (by omega)]; omega
  | succ d ih =>
    intro i s hi hs
    have hlt : i < ws.length := by omega
    have hwx := hw _ (List.getElem_mem hlt)
    have hlt2 : i < (ws.take (c / 64)).length := by rw [hlen]; omega
    have h4 : rd (ws.take (c / 64)) (i : Int) = ws[i] := by rw [rd_nat, List.getD_eq_getElem?_getD, List.getElem?_eq_getElem hlt2, List.getElem_take]; rfl
    obtain ⟨z, h6, h5, h8⟩ : ∃ z : Nat, z ≤ 64 ∧ bits_OnesCount64.f ws[i] = some (z : Int) ∧ s + z = cnt (ws.take (i + 1)) := ⟨_, pc_le (ws[i]).toNat, ones_eq hwx, by rw [List.take_succ_eq_append_getElem hlt, cnt_snoc, hs]⟩
    have h7 := cnt_le (ws.take i)
    rw [List.length_take] at h7
    refine Ev.step (fun k => ?_) (ih (i + 1) (s + z) (by omega) h8)
    conv => lhs; rw [bitset_Rank.l0]
    rw [hlen, if_pos (by omega), if_pos (by omega), if_pos (by omega), h4, h5, Option.bind_some, show wrap64 ((i : Int) + 1) = ((i + 1 : Nat) : Int) by unfold wrap64; omega, ← Int.natCast_add, w64_nat (by omega) (by omega)]
def cl (N : Nat) (e : Int) : Nat := min e.toNat N
theorem Rank_eq {N : Nat} {ws : List Int} (hw : Wds ws) (h : MayP (N : Int) ws) (e : Int) : Ev (fun k => bitset_Rank.f k (N : Int) ws e) (rk ws (cl N e) : Int) := by
  have hN : N ≤ 4096 := by have := h.2.1; omega
  have hlen : ws.length = (N + 63) / 64 := by have := h.2.2.1; rwa [Int.toNat_natCast] at this
  have hc : cl N e ≤ N := Nat.min_le_right _ _
  have hm : mn (mx e 0) (N : Int) = ((cl N e : Nat) : Int) := by unfold mn mx cl; split <;> split <;> omega
  refine Ev.congr (fun k => ?_) (Rank_l0 N hN ws hw hlen (cl N e) hc (cl N e / 64) 0 0 (by omega) (by simp [cnt]))
  unfold bitset_Rank.f
  rw [May_eq _ ws hw (by omega), may_true.2 h, Option.bind_some, if_pos rfl, hm, tdiv_nat, w64_nat (n := ((cl N e / 64 : Nat) : Int)) (by omega) (by omega), if_pos (by omega), if_pos (by omega), Int.toNat_natCast]
  rfl
def SelSays (ws : List Int) (k : Int) (r : Int) : Prop := ((k < 0 ∨ (cnt ws : Int) ≤ k) ∧ r = -1) ∨ (∃ e : Nat, hb ws e = true ∧ (rk ws e : Int) = k ∧ r = (e : Int))
theorem low_off {x : Nat} (h0 : 0 < x) (hx : x < 2 ^ 64) : Lib.ctz 64 x < 64 ∧ x.testBit (Lib.ctz 64 x) = true ∧ (∀ j, j < Lib.ctz 64 x → x.testBit j = false) ∧ (∀ j, (x &&& (x - 1)).testBit j = (x.testBit j && !decide (j = Lib.ctz 64 x))) := by
  obtain ⟨m, h1, h2⟩ := Lib.ctzFrom_spec 64 x h0 hx
  have hc : Lib.ctz 64 x = Lib.ctzFrom 64 x := by unfold Lib.ctz; rw [if_neg (by omega)]
  rw [hc]
  generalize Lib.ctzFrom 64 x = c at h1 h2
  have hb1 : ∀ j, x.testBit j = (decide (j ≥ c) && (2 * m + 1).testBit (j - c)) := fun j => by rw [h1, Nat.testBit_two_pow_mul]
  have hp0 : 0 < (2 : Nat) ^ c := Nat.two_pow_pos c
  have hand : x &&& (x - 1) = 2 ^ c * (2 * m) := by
    have e1 : x - 1 = 2 ^ c * (2 * m) + (2 ^ c - 1) := by rw [h1, Nat.mul_add]; omega
    have h3 : (2 ^ c * (2 * m + 1)) &&& (2 ^ c * (2 * m) + (2 ^ c - 1)) = 2 ^ c * ((2 * m + 1) &&& (2 * m)) := by
      have h := and_split c 0 (2 ^ c - 1) (2 * m + 1) (2 * m) hp0 (by omega)
      rw [Nat.zero_and] at h
      simpa only [Nat.add_zero] using h
    rw [e1, h1, h3]
    congr 1
    apply Nat.eq_of_testBit_eq
    intro j
    rw [Nat.testBit_and]
    cases j with
    | zero => simp [Nat.testBit_zero]
    | succ j => rw [Nat.testBit_succ, Nat.testBit_succ, show (2 * m + 1) / 2 = m by omega, show 2 * m / 2 = m by omega, Bool.and_self]
  refine ⟨h2, ?_, fun j hj => ?_, fun j => ?_⟩
  · rw [hb1, Nat.sub_self]; simp [Nat.testBit_zero]
  · rw [hb1, decide_eq_false (by omega), Bool.false_and]
  · rw [hand, Nat.testBit_two_pow_mul, hb1]
    by_cases hj : j = c
    · subst hj
      simp [Nat.testBit_zero]
    · rw [decide_eq_false hj, Bool.not_false, Bool.and_true]
      by_cases hge : j ≥ c
      · rw [decide_eq_true hge, Bool.true_and, Bool.true_and]
        obtain ⟨t, rfl⟩ : ∃ t, j = c + (t + 1) := ⟨j - c - 1, by omega⟩
        rw [show c + (t + 1) - c = t + 1 by omega, Nat.testBit_succ, Nat.testBit_succ, show (2 * m + 1) / 2 = m by omega, show 2 * m / 2 = m by omega]
      · rw [decide_eq_false hge, Bool.false_and, Bool.false_and]
theorem Select_l1 (i : Nat) (hi : i ≤ 64) : ∀ (k : Nat) (x : Int), Wd x → k < pc x.toNat → ∃ e : Nat, e < 64 ∧ tb x e = true ∧ (List.range e).countP (tb x) = k ∧ Ev (fun f => bitset_Select.l1 f (k : Int) (i : Int) x) ((64 * i + e : Nat) : Int) := by
  intro k
  induction k with
  | zero =>
    intro x hx hk
    have hn := hx.nat
    have h0 : 0 < x.toNat := by
      rcases Nat.eq_zero_or_pos x.toNat with h | h
      · have := (pc_zero hx).2 (fun j => by unfold tb; rw [h]; simp)
        omega
      · exact h
    obtain ⟨c1, c2, c3, _⟩ := low_off h0 hn.1
    refine ⟨Lib.ctz 64 x.toNat, c1, c2, ?_, ?_⟩
    · rw [List.countP_eq_zero]
      intro j hj
      have := c3 j (List.mem_range.1 hj)
      unfold tb
      rw [this]; simp
    · refine Ev.step (f := fun _ => some ((64 * i + Lib.ctz 64 x.toNat : Nat) : Int)) (fun f => ?_) (Ev.now _)
      rw [bitset_Select.l1]
      rw [if_neg (by omega)]
      unfold bits_TrailingZeros64.f
      rw [if_pos (by unfold Wd at hx; exact hx), Option.bind_some, w64_nat (n := (i : Int) * 64) (by omega) (by omega), w64_nat (by omega) (by omega)]
      congr 1
      omega
  | succ k ih =>
    intro x hx hk
    have hn := hx.nat
    have h0 : 0 < x.toNat := by
      rcases Nat.eq_zero_or_pos x.toNat with h | h
      · have := (pc_zero hx).2 (fun j => by unfold tb; rw [h]; simp)
        omega
      · exact h
    obtain ⟨c1, c2, c3, c4⟩ := low_off h0 hn.1
    have hx1 : IntKind.u64.wrap (x - 1) = ((x.toNat - 1 : Nat) : Int) := by rw [show x - 1 = ((x.toNat - 1 : Nat) : Int) by omega]; exact wrap_nat _ (by omega)
    have hand : Go.bits .and .u64 x (IntKind.u64.wrap (x - 1)) = ((x.toNat &&& (x.toNat - 1) : Nat) : Int) := by
      rw [hx1]
      conv => lhs; rw [← hn.2]
      exact and_nat _ _ hn.1 (by omega)
    have hlt : x.toNat &&& (x.toNat - 1) < 2 ^ 64 := Nat.and_lt_two_pow _ (by omega)
    have hy : Wd ((x.toNat &&& (x.toNat - 1) : Nat) : Int) := Wd.of hlt
    have htb : ∀ j, tb ((x.toNat &&& (x.toNat - 1) : Nat) : Int) j = (tb x j && !decide (j = Lib.ctz 64 x.toNat)) := fun j => by
      unfold tb; rw [Int.toNat_natCast]; exact c4 j
    generalize Lib.ctz 64 x.toNat = c at c1 c2 c3 htb
    -- what is below e, without the lowest bit
    have hcount : ∀ e, c < e → (List.range e).countP (tb x) = (List.range e).countP (tb ((x.toNat &&& (x.toNat - 1) : Nat) : Int)) + 1 := by
      intro e he
      obtain ⟨d, rfl⟩ : ∃ d, e = (c + 1) + d := ⟨e - (c + 1), by omega⟩
      have low : ∀ y : Int, (List.range (c + 1 + d)).countP (tb y) = (List.range c).countP (tb y) + (if tb y c = true then 1 else 0) + (List.range d).countP (tb y ∘ fun t => c + 1 + t) := fun y => by
        rw [List.range_add, List.countP_append, List.range_succ, List.countP_append, List.countP_map]
        simp [List.countP_cons]
      rw [low, low]
      have e1 : (List.range c).countP (tb ((x.toNat &&& (x.toNat - 1) : Nat) : Int)) = (List.range c).countP (tb x) := by
        refine List.countP_congr fun j hj => ?_
        rw [htb, decide_eq_false (by have := List.mem_range.1 hj; omega)]; simp
      have e2 : (List.range d).countP (tb ((x.toNat &&& (x.toNat - 1) : Nat) : Int) ∘ fun t => c + 1 + t) = (List.range d).countP (tb x ∘ fun t => c + 1 + t) := by
        refine List.countP_congr fun j hj => ?_
        simp only [Function.comp]
        rw [htb, decide_eq_false (by omega)]; simp
      have e3 : tb ((x.toNat &&& (x.toNat - 1) : Nat) : Int) c = false := by rw [htb]; simp
      have e4 : tb x c = true := c2
      rw [e1, e2, e3, e4, if_pos rfl, if_neg (by simp)]
      omega
    have hpc : pc x.toNat = pc (x.toNat &&& (x.toNat - 1)) + 1 := by
      have := hcount 64 c1
      have h9 := pc_countP ((x.toNat &&& (x.toNat - 1) : Nat) : Int)
      rw [Int.toNat_natCast] at h9
      rw [pc_countP, h9]; exact this
    obtain ⟨e, e1, e2, e3, e4⟩ := ih ((x.toNat &&& (x.toNat - 1) : Nat) : Int) hy (by rw [Int.toNat_natCast]; omega)
    rw [htb, Bool.and_eq_true] at e2
    have hne : e ≠ c := by have := e2.2; simpa using this
    have hce : c < e := by
      rcases Nat.lt_trichotomy c e with h | h | h
      · exact h
      · exact absurd h.symm hne
      · have := c3 e h
        have h2 := e2.1
        unfold tb at h2
        rw [this] at h2; cases h2
    refine ⟨e, e1, e2.1, by rw [hcount e hce, e3], Ev.step (fun f => ?_) e4⟩
    conv => lhs; rw [bitset_Select.l1]
    rw [if_pos (by omega), hand, show wrap64 (((k + 1 : Nat) : Int) - 1) = (k : Int) by unfold wrap64; have := pc_le x.toNat; omega]
theorem Select_l0 (ws : List Int) (hw : Wds ws) (hl : ws.length ≤ 64) (k : Nat) (hk : k ≤ 9223372036854775807) : ∀ d i q : Nat, i + d = ws.length → cnt (ws.take i) + q = k → ∃ r, SelSays ws (k : Int) r ∧ Ev (fun f => bitset_Select.l0 f (q : Int) ws (ws.length : Int) (i : Int)) r := by
  intro d
  induction d with
  | zero =>
    intro i q hi hq
    rw [List.take_of_length_le (by omega)] at hq
    refine ⟨-1, .inl ⟨.inr (by omega), rfl⟩, Ev.step (f := fun _ => some (-1)) (fun f => ?_) (Ev.now _)⟩
    rw [bitset_Select.l0]
    rw [if_neg (by omega)]
  | succ d ih =>
    intro i q hi hq
    have hlt : i < ws.length := by omega
    have hwx := hw _ (List.getElem_mem hlt)
    have h4 : rd ws (i : Int) = ws[i] := by rw [rd_nat, List.getD_eq_getElem?_getD, List.getElem?_eq_getElem hlt]; rfl
    obtain ⟨z, hz, h5, h8⟩ : ∃ z : Nat, z = pc (ws[i]).toNat ∧ bits_OnesCount64.f ws[i] = some (z : Int) ∧ cnt (ws.take i) + z = cnt (ws.take (i + 1)) := by
      have a1 := ones_eq hwx
      have a2 : cnt (ws.take (i + 1)) = cnt (ws.take i) + pc (ws[i]).toNat := by rw [List.take_succ_eq_append_getElem hlt, cnt_snoc]
      generalize pc (ws[i]).toNat = z at a1 a2
      exact ⟨z, rfl, a1, a2.symm⟩
    by_cases hge : z ≤ q
    · obtain ⟨r, h1, h2⟩ := ih (i + 1) (q - z) (by omega) (by omega)
      refine ⟨r, h1, Ev.step (fun f => ?_) h2⟩
      conv => lhs; rw [bitset_Select.l0]
      rw [if_pos (by omega), if_pos (by omega), if_pos (by omega), h4, h5, Option.bind_some, if_pos (by omega), show wrap64 ((i : Int) + 1) = ((i + 1 : Nat) : Int) by unfold wrap64; omega, show wrap64 ((q : Int) - (z : Int)) = ((q - z : Nat) : Int) by unfold wrap64; omega]
    · obtain ⟨e, e1, e2, e3, e4⟩ := Select_l1 i (by omega) q ws[i] hwx (by rw [← hz]; omega)
      have h9 := rk_add ws i e (by omega)
      rw [List.getD_eq_getElem?_getD, List.getElem?_eq_getElem hlt, ← cnt_take ws i (by omega)] at h9
      change rk ws (64 * i + e) = cnt (ws.take i) + (List.range e).countP (tb ws[i]) at h9
      refine ⟨((64 * i + e : Nat) : Int), .inr ⟨64 * i + e, ?_, by rw [h9, e3]; omega, rfl⟩, Ev.step (fun f => ?_) e4⟩
      · unfold hb
        rw [show (64 * i + e) / 64 = i by omega, show (64 * i + e) % 64 = e by omega, List.getD_eq_getElem?_getD, List.getElem?_eq_getElem hlt]
        exact e2
      · conv => lhs; rw [bitset_Select.l0]
        rw [if_pos (by omega), if_pos (by omega), if_pos (by omega), h4, h5, Option.bind_some, if_neg (by omega)]
theorem Select_eq {N : Nat} {ws : List Int} (hw : Wds ws) (h : MayP (N : Int) ws) (k : Int) (hk : k ≤ 9223372036854775807) : ∃ r, SelSays ws k r ∧ Ev (fun f => bitset_Select.f f (N : Int) ws k) r := by
  have hlen : ws.length ≤ 64 := by have h1 := h.2.1; have h2 := h.2.2.1; omega
  by_cases h0 : k < 0
  · refine ⟨-1, .inl ⟨.inl h0, rfl⟩, Ev.congr (f := fun f => bitset_Select.j0 f k true (N : Int) ws) (fun f => ?_) (Ev.step (f := fun _ => some (-1)) (fun f => ?_) (Ev.now _))⟩
    · unfold bitset_Select.f
      rw [May_eq _ ws hw (by omega), may_true.2 h, Option.bind_some, if_pos rfl, decide_eq_true h0]
    · rw [bitset_Select.j0]
      rw [if_pos rfl]
  · obtain ⟨n, rfl⟩ := Int.eq_ofNat_of_zero_le (show 0 ≤ k by omega)
    obtain ⟨r, h1, h2⟩ := Select_l0 ws hw hlen n (by omega) ws.length 0 n (by omega) (by simp [cnt])
    refine ⟨r, h1, Ev.congr (f := fun f => bitset_Select.j0 f (n : Int) false (N : Int) ws) (fun f => ?_) (Ev.step (f := fun f => bitset_Select.l0 f (n : Int) ws (ws.length : Int) ((0 : Nat) : Int)) (fun f => ?_) h2)⟩
    · unfold bitset_Select.f
      rw [May_eq _ ws hw (by omega), may_true.2 h, Option.bind_some, if_pos rfl, decide_eq_false h0]
    · rw [bitset_Select.j0]
      rw [if_neg (by simp)]; rfl
end Go.Proofs.YtjmkhdhffmlhiaaDoor.PAll
end
section
namespace Go.Proofs.YtjmkhdhffmlhiaaDoor.PAll
open Go.RowKit Go.Proofs.YtjmkhdhffmlhiaaDoorW.PrintWords Go.Proofs.YtjmkhdhffmlhiaaDoorW.PrintLast Go.Proofs.YtjmkhdhffmlhiaaDoorW.PrintMore
attribute [local go_sem] max2_int min2_int max_two min_two max_three min_three max_four min_four w64_u8 w64_mod256   -- for this text's walks alone
set_option linter.unusedVariables false
set_option linter.unusedSimpArgs false
end Go.Proofs.YtjmkhdhffmlhiaaDoor.PAll
end
section
namespace Go.Proofs.YtjmkhdhffmlhiaaDoor.PAll
open Go.RowKit Go.Proofs.YtjmkhdhffmlhiaaDoorW.PrintWords Go.Proofs.YtjmkhdhffmlhiaaDoorW.PrintLast Go.Proofs.YtjmkhdhffmlhiaaDoorW.PrintMore
attribute [local go_sem] max2_int min2_int max_two min_two max_three min_three max_four min_four w64_u8 w64_mod256   -- for this text's walks alone
set_option linter.unusedVariables false
set_option linter.unusedSimpArgs false
end Go.Proofs.YtjmkhdhffmlhiaaDoor.PAll
end
section
namespace Go.Proofs.YtjmkhdhffmlhiaaDoor.PAll
open Go.RowKit Go.Proofs.YtjmkhdhffmlhiaaDoorW.PrintWords Go.Proofs.YtjmkhdhffmlhiaaDoorW.PrintLast Go.Proofs.YtjmkhdhffmlhiaaDoorW.PrintMore
attribute [local go_sem] max2_int min2_int max_two min_two max_three min_three max_four min_four w64_u8 w64_mod256   -- for this text's walks alone
set_option linter.unusedVariables false
set_option linter.unusedSimpArgs false
end Go.Proofs.YtjmkhdhffmlhiaaDoor.PAll
end
section
namespace Go.Proofs.YtjmkhdhffmlhiaaDoor.PAll
set_option linter.unusedVariables false
open Go.RowKit Go.Proofs.YtjmkhdhffmlhiaaDoorW.PrintWords Go.Proofs.YtjmkhdhffmlhiaaDoorW.PrintMore
def els (N : Nat) (ws : List Int) : List Int := ((List.range N).filter (hb ws)).map (fun e : Nat => (e : Int))
end Go.Proofs.YtjmkhdhffmlhiaaDoor.PAll
end
section
namespace Go.Proofs.YtjmkhdhffmlhiaaDoor.PAll
set_option linter.unusedVariables false
open Go.RowKit Go.Shelf Go.Proofs.YtjmkhdhffmlhiaaDoorW.PrintWords Go.Proofs.YtjmkhdhffmlhiaaDoorW.PrintMore
attribute [local go_sem] Oper.semAt_some
def Ke (K : Nat → Prop) (A B : World) : Prop := ∀ k, K k → B.heap[k]? = A.heap[k]?
theorem Ke.refl (K : Nat → Prop) (A : World) : Ke K A A := fun _ _ => rfl
theorem Ke.trans {K : Nat → Prop} {A B C : World} (h : Ke K A B) (g : Ke K B C) : Ke K A C := fun k hk => (g k hk).trans (h k hk)
theorem Ke.cell {K : Nat → Prop} {A B : World} (h : Ke K A B) {k : Nat} (hk : K k) (i : Nat) : B.cell? ⟨k, i, none⟩ = A.cell? ⟨k, i, none⟩ := by
  have := h k hk
  simp [World.cell?, this]
end Go.Proofs.YtjmkhdhffmlhiaaDoor.PAll
end
section
namespace Go.Proofs.YtjmkhdhffmlhiaaDoor.PAll
set_option linter.unusedVariables false
open Go.RowKit Go.Proofs.YtjmkhdhffmlhiaaDoorW.PrintWords Go.Proofs.YtjmkhdhffmlhiaaDoorW.PrintLast Go.Proofs.YtjmkhdhffmlhiaaDoorW.PrintMore
end Go.Proofs.YtjmkhdhffmlhiaaDoor.PAll
end
section
namespace Go.Proofs.YtjmkhdhffmlhiaaDoor.PAll
set_option linter.unusedVariables false
open Go.RowKit Go.Shelf Go.Proofs.YtjmkhdhffmlhiaaDoorW.PrintWords Go.Proofs.YtjmkhdhffmlhiaaDoorW.PrintLast Go.Proofs.YtjmkhdhffmlhiaaDoorW.PrintMore
attribute [local go_sem] Oper.semAt_some
theorem blk_kept {W W' : World} {S : Nat → Prop} {k : Nat} {o : Obj} (h : W.heap[k]? = some o) (hk : Kept W W' S) (hn : ¬ S k) : W'.heap[k]? = some o := (hk.2 k (blk_lt h) hn).trans h
end Go.Proofs.YtjmkhdhffmlhiaaDoor.PAll
end
section
namespace Go.Proofs.YtjmkhdhffmlhiaaDoor.PAll
set_option linter.unusedVariables false
open Go.RowKit Go.Shelf Go.Proofs.YtjmkhdhffmlhiaaDoorW.PrintWords Go.Proofs.YtjmkhdhffmlhiaaDoorW.PrintLast Go.Proofs.YtjmkhdhffmlhiaaDoorW.PrintMore
attribute [local go_sem] Oper.semAt_some
end Go.Proofs.YtjmkhdhffmlhiaaDoor.PAll
end
section
namespace Go.Proofs.YtjmkhdhffmlhiaaDoor.PAll
open Go.RowKit Go.Proofs.YtjmkhdhffmlhiaaDoorW.PrintWords Go.Proofs.YtjmkhdhffmlhiaaDoorW.PrintLast Go.Proofs.YtjmkhdhffmlhiaaDoorW.PrintMore
attribute [local go_sem] max2_int min2_int max_two min_two max_three min_three max_four min_four w64_u8 w64_mod256   -- for this text's walks alone
set_option linter.unusedVariables false
set_option linter.unusedSimpArgs false
end Go.Proofs.YtjmkhdhffmlhiaaDoor.PAll
end
section
namespace Go.Proofs.YtjmkhdhffmlhiaaDoor.PAll
open Go.RowKit Go.Proofs.YtjmkhdhffmlhiaaDoorW.PrintWords Go.Proofs.YtjmkhdhffmlhiaaDoorW.PrintLast Go.Proofs.YtjmkhdhffmlhiaaDoorW.PrintMore
attribute [local go_sem] max2_int min2_int max_two min_two max_three min_three max_four min_four w64_u8 w64_mod256   -- for this text's walks alone
set_option linter.unusedVariables false
set_option linter.unusedSimpArgs false
end Go.Proofs.YtjmkhdhffmlhiaaDoor.PAll
end
section
namespace Go.Proofs.YtjmkhdhffmlhiaaDoor.PAll
open Go.RowKit Go.Proofs.YtjmkhdhffmlhiaaDoorW.PrintWords Go.Proofs.YtjmkhdhffmlhiaaDoorW.PrintLast Go.Proofs.YtjmkhdhffmlhiaaDoorW.PrintMore
attribute [local go_sem] max2_int min2_int max_two min_two max_three min_three max_four min_four w64_u8 w64_mod256   -- for this text's walks alone
set_option linter.unusedVariables false
set_option linter.unusedSimpArgs false
end Go.Proofs.YtjmkhdhffmlhiaaDoor.PAll
end
section
namespace Go.Proofs.YtjmkhdhffmlhiaaDoor.PAll
open Go.RowKit Go.Proofs.YtjmkhdhffmlhiaaDoorW.PrintWords Go.Proofs.YtjmkhdhffmlhiaaDoorW.PrintLast Go.Proofs.YtjmkhdhffmlhiaaDoorW.PrintMore
attribute [local go_sem] max2_int min2_int max_two min_two max_three min_three max_four min_four w64_u8 w64_mod256   -- for this text's walks alone
set_option linter.unusedVariables false
set_option linter.unusedSimpArgs false
end Go.Proofs.YtjmkhdhffmlhiaaDoor.PAll
end
section
namespace Go.Proofs.YtjmkhdhffmlhiaaDoor.PAll
set_option linter.unusedVariables false
open Go.RowKit Go.Proofs.YtjmkhdhffmlhiaaDoorW.PrintWords Go.Proofs.YtjmkhdhffmlhiaaDoorW.PrintMore
theorem has_eq {n : Int} {ws : List Int} {e : Nat} (hw : Wds ws) (he : e / 64 < ws.length) (hb1 : e < 1000000) : bitset_has.f n ws (e : Int) = some (hb ws e) := by
  unfold bitset_has.f
  have hwx := hw.getD (e / 64)
  rw [tdiv_nat, tmod_nat, w64_nat (n := ((e / 64 : Nat) : Int)) (by omega) (by omega), if_pos (by omega), if_pos (by omega), if_pos (by omega), rd_nat, shr_eq hwx (by omega) (by omega), Int.toNat_natCast]
  unfold hb tb
  generalize ws.getD (e / 64) 0 = q at hwx ⊢
  have hlt2 : q.toNat >>> (e % 64) < 2 ^ 64 := Nat.lt_of_le_of_lt (by rw [Nat.shiftRight_eq_div_pow]; exact Nat.div_le_self _ _) hwx.nat.1
  have h6 := and_nat _ 1 hlt2 (by omega)
  rw [show (((1 : Nat) : Int)) = 1 from rfl] at h6
  rw [h6, Nat.and_one_is_mod]
  congr 1
  rw [show Nat.testBit q.toNat (e % 64) = Nat.testBit (q.toNat >>> (e % 64)) 0 by rw [Nat.testBit_shiftRight, Nat.add_zero], Nat.testBit_zero]
  generalize q.toNat >>> (e % 64) = y
  rcases Nat.mod_two_eq_zero_or_one y with h | h <;> simp [h]
theorem mem_els {N : Nat} {ws : List Int} {x : Int} : x ∈ els N ws ↔ ∃ j : Nat, j < N ∧ hb ws j = true ∧ x = (j : Int) := by
  unfold els
  simp only [List.mem_map, List.mem_filter, List.mem_range]
  constructor
  · rintro ⟨j, ⟨h1, h2⟩, rfl⟩; exact ⟨j, h1, h2, rfl⟩
  · rintro ⟨j, h1, h2, rfl⟩; exact ⟨j, ⟨h1, h2⟩, rfl⟩
def shP (ws : List Int) (d : Int) (e : Nat) : Bool := decide (0 ≤ (e : Int) - d) && hb ws ((e : Int) - d).toNat
def ShiftSays (n : Int) (ws : List Int) (d : Int) (r : Int × List Int × Int) : Prop :=
  (¬ MayP n ws ∧ r = (0, [], 61)) ∨ (MayP n ws ∧ ∃ vs, Is n.toNat (shP ws d) vs ∧ r = (n, vs, 0))
theorem ShiftSays.eq {n : Int} {ws : List Int} {d : Int} {r q : Int × List Int × Int} (h : ShiftSays n ws d r) (k : ShiftSays n ws d q) : r = q := by
  rcases h with ⟨h1, rfl⟩ | ⟨h1, vs, h2, rfl⟩ <;> rcases k with ⟨k1, rfl⟩ | ⟨k1, us, k2, rfl⟩
  · rfl
  · exact absurd k1 h1
  · exact absurd h1 k1
  · rw [h2.eq k2 (fun _ _ => rfl)]
def MvP (ws tw : List Int) (i : Nat) (e : Nat) : Prop := ∃ a, i ≤ a ∧ a < tw.length ∧ hb ws a = true ∧ tw.getD a 0 = (e : Int)
noncomputable def mvp (ws tw : List Int) (i : Nat) (e : Nat) : Bool := @decide (MvP ws tw i e) (Classical.propDecidable _)
def MoveSays (n : Int) (ws : List Int) (size : Int) (tw : List Int) (r : Int × List Int × Int) : Prop :=
  (¬ MayP n ws ∧ r = (0, [], 61)) ∨ (MayP n ws ∧ (((size < 0 ∨ 4096 < size) ∧ r = (0, [], 60)) ∨ (0 ≤ size ∧ size ≤ 4096 ∧ (((tw.length : Int) ≠ n ∧ r = (0, [], 1)) ∨ ((tw.length : Int) = n ∧
    (((∃ x ∈ tw, x < -1 ∨ size ≤ x) ∧ r = (0, [], 62)) ∨ ((∀ x ∈ tw, -1 ≤ x ∧ x < size) ∧ ∃ vs, Is size.toNat (mvp ws tw 0) vs ∧ r = (size, vs, 0))))))))
theorem MoveSays.eq {n : Int} {ws : List Int} {size : Int} {tw : List Int} {r q : Int × List Int × Int} (h : MoveSays n ws size tw r) (k : MoveSays n ws size tw q) : r = q := by
  rcases h with ⟨h1, rfl⟩ | ⟨h1, ⟨h2, rfl⟩ | ⟨h2, h3, ⟨h4, rfl⟩ | ⟨h4, ⟨⟨x, h5, h6⟩, rfl⟩ | ⟨h5, vs, h6, rfl⟩⟩⟩⟩ <;> rcases k with ⟨k1, rfl⟩ | ⟨k1, ⟨k2, rfl⟩ | ⟨k2, k3, ⟨k4, rfl⟩ | ⟨k4, ⟨⟨y, k5, k6⟩, rfl⟩ | ⟨k5, us, k6, rfl⟩⟩⟩⟩
  all_goals first | rfl | (exact absurd k1 h1) | (exact absurd h1 k1) | omega | (exact absurd k4 h4) | (exact absurd h4 k4) | skip
  · have := k5 x h5; omega
  · have := h5 y k5; omega
  · rw [h6.eq k6 (fun _ _ => rfl)]
end Go.Proofs.YtjmkhdhffmlhiaaDoor.PAll
end
section
namespace Go.Proofs.YtjmkhdhffmlhiaaDoor.PAll
open Go.RowKit Go.Proofs.YtjmkhdhffmlhiaaDoorW.PrintWords Go.Proofs.YtjmkhdhffmlhiaaDoorW.PrintLast Go.Proofs.YtjmkhdhffmlhiaaDoorW.PrintMore
attribute [local go_sem] max2_int min2_int max_two min_two max_three min_three max_four min_four w64_u8 w64_mod256   -- for this text's walks alone
set_option linter.unusedVariables false
set_option linter.unusedSimpArgs false
def bitset_blanks.l0 : Nat → Int → Int → Int → Int → List (S24) → Option (Int × (List (S24)))
  | 0, _, _, _, _, _ => none
  | k + 1, x0, x8, x9, x103000, x103001 => if x9 < x8 then ((bitset_blank.f x0).bind fun bt103 => (if x103001.length < 4398046511104 then (bitset_blanks.l0 k x0 x8 (wrap64 (x9 + 1)) x103000 (x103001 ++ [(⟨bt103.1, bt103.2⟩ : S24)])) else (none))) else (some (x103000, x103001))
def bitset_blanks.f (k : Nat) (a0 : Int) (a1 : Int) : Option (Int × (List (S24))) := bitset_blanks.l0 k a0 a1 0 a0 ([] : List (S24))
theorem bitset_blanks.mono_l : ∀ k, (∀ y0 y1 y2 y3 y4, LeO (bitset_blanks.l0 k y0 y1 y2 y3 y4) (bitset_blanks.l0 (k + 1) y0 y1 y2 y3 y4))
  | 0 => fun _ _ _ _ _ r h => by simp [bitset_blanks.l0] at h
  | k + 1 => by
    have ih0 := bitset_blanks.mono_l k
    · intro y0 y1 y2 y3 y4
      unfold bitset_blanks.l0
      repeat' first
      | (with_reducible exact ih0 _ _ _ _ _)
      | (with_reducible exact LeO.refl _)
      | (with_reducible exact LeO.none _)
      | (with_reducible refine LeO.ite ?_ ?_)
      | (with_reducible refine LeO.bind ?_ (fun _ => ?_))
      | exact ih0 _ _ _ _ _
      | exact LeO.none _
      | refine LeO.ite ?_ ?_
      | refine LeO.bind ?_ (fun _ => ?_)
theorem bitset_blanks.mono : ∀ a0 a1 k, LeO (bitset_blanks.f k a0 a1) (bitset_blanks.f (k + 1) a0 a1) := by
  intro a0 a1 k
  have ih0 := bitset_blanks.mono_l k
  unfold bitset_blanks.f
  repeat' first
      | (with_reducible exact ih0 _ _ _ _ _)
      | (with_reducible exact LeO.refl _)
      | (with_reducible exact LeO.none _)
      | (with_reducible refine LeO.ite ?_ ?_)
      | (with_reducible refine LeO.bind ?_ (fun _ => ?_))
      | exact ih0 _ _ _ _ _
      | exact LeO.none _
      | refine LeO.ite ?_ ?_
      | refine LeO.bind ?_ (fun _ => ?_)
end Go.Proofs.YtjmkhdhffmlhiaaDoor.PAll
end
section
namespace Go.Proofs.YtjmkhdhffmlhiaaDoor.PAll
set_option linter.unusedVariables false
set_option linter.unusedSimpArgs false
open Go.RowKit Go.Shelf Go.Proofs.YtjmkhdhffmlhiaaDoorW.PrintWords Go.Proofs.YtjmkhdhffmlhiaaDoorW.PrintLast Go.Proofs.YtjmkhdhffmlhiaaDoorW.PrintMore
attribute [local go_sem] Oper.semAt_some
def Marks (B : Nat) (W : World) (ds : List Deferred) : Prop :=
  ∃ Ds : List Nat, ds = Ds.map (fun D => { target := .collected D, args := #[] }) ∧ Ds.Nodup ∧ ∀ D ∈ Ds, B ≤ D ∧ W.heap[D]? = some (.deferred (some []))
theorem Marks.none (B : Nat) (W : World) : Marks B W [] := ⟨[], rfl, List.nodup_nil, fun _ h => by cases h⟩
theorem Marks.low {B B' : Nat} {W : World} {ds : List Deferred} (h : Marks B W ds) (hB : B' ≤ B) : Marks B' W ds := by
  obtain ⟨Ds, h1, h2, h3⟩ := h
  exact ⟨Ds, h1, h2, fun D hD => ⟨Nat.le_trans hB (h3 D hD).1, (h3 D hD).2⟩⟩
theorem Marks.cons {B D : Nat} {W W' : World} {ds : List Deferred} (h : Marks B W ds) (hk : ∀ k, B ≤ k → k < W.heap.size → W'.heap[k]? = W.heap[k]?) (hD : W.heap.size ≤ D) (hB : B ≤ D) (hW : W'.heap[D]? = some (.deferred (some []))) : Marks B W' ({ target := .collected D, args := #[] } :: ds) := by
  obtain ⟨Ds, h1, h2, h3⟩ := h
  refine ⟨D :: Ds, by rw [h1]; rfl, List.nodup_cons.2 ⟨fun hm => ?_, h2⟩, fun D' hm => ?_⟩
  · have := blk_lt (h3 D hm).2; omega
  · rcases List.mem_cons.1 hm with rfl | hm
    · exact ⟨hB, hW⟩
    · exact ⟨(h3 D' hm).1, (hk D' (h3 D' hm).1 (blk_lt (h3 D' hm).2)).trans (h3 D' hm).2⟩
theorem leave_marks {F : Fence} {n : Nat} {P : Program} {fn : Func} {tmps : Array Value} {R : Ending → World → Prop} {B : Nat} : ∀ (Ds : List Nat) (W : World), Ds.Nodup → (∀ D ∈ Ds, B ≤ D ∧ W.heap[D]? = some (.deferred (some []))) →
    (∀ W', Below B W W' → (∀ k, k ∉ Ds → W'.heap[k]? = W.heap[k]?) → LeavesInM F n P fn tmps R [] .returning W') → LeavesInM F n P fn tmps R (Ds.map (fun D => { target := .collected D, args := #[] })) .returning W
  | [], W, _, _, h => h W (Below.refl _ _) (fun _ _ => rfl)
  | D :: Ds, W, hn, hD, h => by
    obtain ⟨n1, n2⟩ := List.nodup_cons.1 hn
    obtain ⟨b1, b2⟩ := hD D List.mem_cons_self
    refine ⟨by simp, .inl ⟨D, _, rfl, run_takeDeferred b2, ?_⟩⟩
    refine leave_marks Ds _ n2 (fun D' hm => ⟨(hD D' (List.mem_cons_of_mem _ hm)).1, (World.putObj_heap_other (by rintro rfl; exact n1 hm)).trans (hD D' (List.mem_cons_of_mem _ hm)).2⟩) (fun W' hb hk => h W' ?_ fun k hm => ?_)
    · exact ((Below.refl B W).grown (grownBy_putObj' W D (.deferred none)) (Nat.le_trans b1 (Nat.le_of_lt (blk_lt b2))) (fun k e => by cases e; exact b1)).trans hb
    · exact (hk k (fun hh => hm (List.mem_cons_of_mem _ hh))).trans (World.putObj_heap_other (by rintro rfl; exact hm List.mem_cons_self))
theorem Marks.leave {F : Fence} {n : Nat} {P : Program} {fn : Func} {tmps : Array Value} {R : Ending → World → Prop} {B : Nat} {W : World} {ds : List Deferred} (h : Marks B W ds)
    (hr : ∀ W', Below B W W' → (∀ (k : Nat) (o : Obj), W.heap[k]? = some o → o.isCells = true → W'.heap[k]? = some o) → LeavesInM F n P fn tmps R [] .returning W') : LeavesInM F n P fn tmps R ds .returning W := by
  obtain ⟨Ds, rfl, h2, h3⟩ := h
  refine leave_marks Ds W h2 h3 fun W' hb hk => hr W' hb fun k o ho hc => (hk k fun hm => ?_).trans ho
  have := (h3 k hm).2
  rw [ho] at this; cases this; cases hc
def turnS (i : Nat) (rows : List S24) (x : Int) : List S24 := rows.set x.toNat ⟨(rd_T24 rows x).f0, putw (rd_T24 rows x).f1 i⟩
def turnA : Nat → List S24 → List S24 → List S24
  | _, [], rows => rows
  | i, s :: l, rows => turnA (i + 1) l ((els (64 * s.f1.length) s.f1).foldl (turnS i) rows)
def Rok (n m : Nat) (rows : List S24) : Prop := rows.length = n ∧ ∀ r ∈ rows, r.f1.length = (m + 63) / 64
theorem rdT_nat (rows : List S24) {j : Nat} (h : j < rows.length) : rd_T24 rows (j : Int) = rows[j] := by simp [rd_T24, List.getD_eq_getElem?_getD, List.getElem?_eq_getElem h]
theorem Rok.turn {n m i : Nat} {rows : List S24} (h : Rok n m rows) {x : Int} (h0 : 0 ≤ x) (h1 : x < n) : Rok n m (turnS i rows x) := by
  obtain ⟨j, rfl⟩ := Int.eq_ofNat_of_zero_le h0
  have hj : j < rows.length := by rw [h.1]; omega
  refine ⟨by unfold turnS; rw [List.length_set, h.1], fun r hr => ?_⟩
  unfold turnS at hr
  rcases List.mem_or_eq_of_mem_set hr with hr | rfl
  · exact h.2 r hr
  · simp only [putw_length]
    rw [rdT_nat rows hj]
    exact h.2 _ (List.getElem_mem hj)
theorem Rok.turns {n m i : Nat} : ∀ (xs : List Int) {rows : List S24}, Rok n m rows → (∀ x ∈ xs, 0 ≤ x ∧ x < n) → Rok n m (xs.foldl (turnS i) rows)
  | [], _, h, _ => h
  | x :: xs, _, h, hx => Rok.turns xs (h.turn (hx x List.mem_cons_self).1 (hx x List.mem_cons_self).2) (fun y hy => hx y (List.mem_cons_of_mem _ hy))
theorem els_in {n : Nat} {ws : List Int} (hM : MayP (n : Int) ws) {x : Int} (hx : x ∈ els (64 * ws.length) ws) : 0 ≤ x ∧ x < n := by
  obtain ⟨j, j1, j2, rfl⟩ := mem_els.1 hx
  have hj : j < n := Nat.lt_of_not_le fun hle => by rw [hM.2.2.2 j (by omega)] at j2; cases j2
  omega
end Go.Proofs.YtjmkhdhffmlhiaaDoor.PAll
end
section
namespace Go.Proofs.YtjmkhdhffmlhiaaDoor.PAll
set_option linter.unusedVariables false
open Go.RowKit Go.Shelf Go.Proofs.YtjmkhdhffmlhiaaDoorW.PrintWords Go.Proofs.YtjmkhdhffmlhiaaDoorW.PrintLast Go.Proofs.YtjmkhdhffmlhiaaDoorW.PrintMore
def RowsAre (n m : Nat) (p : Nat → Nat → Bool) (rows : List S24) : Prop := rows.length = n ∧ ∀ (x : Nat) (h : x < rows.length), rows[x].f0 = (m : Int) ∧ Is m (p x) rows[x].f1
theorem S_ext {a b : S24} (h0 : a.f0 = b.f0) (h1 : a.f1 = b.f1) : a = b := by
  obtain ⟨a0, a1⟩ := a
  obtain ⟨b0, b1⟩ := b
  simp only at h0 h1
  rw [h0, h1]
theorem RowsAre.eq {n m : Nat} {p q : Nat → Nat → Bool} {rows rows' : List S24} (h : RowsAre n m p rows) (k : RowsAre n m q rows') (hpq : ∀ x, x < n → ∀ j, j < m → p x j = q x j) : rows = rows' := by
  refine List.ext_getElem (h.1.trans k.1.symm) fun x h1 h2 => ?_
  obtain ⟨a1, a2⟩ := h.2 x h1
  obtain ⟨b1, b2⟩ := k.2 x h2
  exact S_ext (a1.trans b1.symm) (a2.eq b2 (hpq x (h.1 ▸ h1)))
theorem RowsAre.congr {n m : Nat} {p q : Nat → Nat → Bool} {rows : List S24} (h : RowsAre n m p rows) (hpq : ∀ x, x < n → ∀ j, j < m → p x j = q x j) : RowsAre n m q rows :=
  ⟨h.1, fun x hx => ⟨(h.2 x hx).1, (h.2 x hx).2.congr (hpq x (h.1 ▸ hx))⟩⟩
theorem RowsAre.set {n m : Nat} {p : Nat → Nat → Bool} {rows : List S24} (h : RowsAre n m p rows) {y : Nat} (q : Nat → Bool) {f0 : Int} {ws : List Int} (h0 : f0 = (m : Int)) (hq : Is m q ws) : RowsAre n m (fun x j => if x = y then q j else p x j) (rows.set y ⟨f0, ws⟩) := by
  refine ⟨by rw [List.length_set, h.1], fun x hx => ?_⟩
  have hx' : x < rows.length := by rwa [List.length_set] at hx
  by_cases hxy : x = y
  · subst hxy
    simp only [List.getElem_set_self, if_pos]
    exact ⟨h0, hq⟩
  · rw [List.getElem_set_ne (fun e => hxy e.symm)]
    simp only [hxy, if_false]
    exact h.2 x hx'
theorem RowsAre.turn {n m : Nat} {p : Nat → Nat → Bool} {rows : List S24} (h : RowsAre n m p rows) {y i : Nat} (hy : y < n) (hi : i < m) : RowsAre n m (fun x j => p x j || (decide (x = y) && decide (j = i))) (turnS i rows (y : Int)) := by
  have hyl : y < rows.length := by rw [h.1]; exact hy
  unfold turnS
  rw [rdT_nat rows hyl, Int.toNat_natCast]
  obtain ⟨a1, a2⟩ := h.2 y hyl
  refine (h.set _ a1 (a2.put hi)).congr fun x _ j _ => ?_
  by_cases hxy : x = y
  · subst hxy; simp
  · simp [hxy]
theorem RowsAre.turns {n m : Nat} {i : Nat} (hi : i < m) : ∀ (xs : List Int) {p : Nat → Nat → Bool} {rows : List S24}, RowsAre n m p rows → (∀ z ∈ xs, 0 ≤ z ∧ z < n) → RowsAre n m (fun x j => p x j || (decide ((x : Int) ∈ xs) && decide (j = i))) (xs.foldl (turnS i) rows)
  | [], p, rows, h, _ => h.congr fun x _ j _ => by simp
  | z :: xs, p, rows, h, hz => by
    obtain ⟨y, rfl⟩ := Int.eq_ofNat_of_zero_le (hz z List.mem_cons_self).1
    have hy : y < n := by have := (hz _ List.mem_cons_self).2; omega
    refine (RowsAre.turns hi xs (h.turn hy hi) (fun z h => hz z (List.mem_cons_of_mem _ h))).congr fun x _ j _ => ?_
    have e : ((x : Int) = (y : Int)) ↔ x = y := by omega
    simp only [List.mem_cons, e, Bool.decide_or]
    generalize p x j = a1
    generalize decide (x = y) = a2
    generalize decide (j = i) = a3
    generalize decide ((x : Int) ∈ xs) = a4
    revert a1 a2 a3 a4
    decide
theorem els_mem {n : Nat} {ws : List Int} {x : Nat} : decide ((x : Int) ∈ els (64 * ws.length) ws) = hb ws x := by
  rw [Bool.eq_iff_iff, decide_eq_true_iff, mem_els]
  constructor
  · rintro ⟨j, _, j2, j3⟩
    rw [show x = j by omega]; exact j2
  · intro h
    exact ⟨x, Nat.lt_of_not_le (fun hle => by rw [hb_high hle] at h; cases h), h, rfl⟩
theorem RowsAre.turnA {n m : Nat} : ∀ (l : List S24) (i : Nat) {p : Nat → Nat → Bool} {rows : List S24}, RowsAre n m p rows → i + l.length ≤ m → (∀ s ∈ l, MayP (n : Int) s.f1) → RowsAre n m (fun x j => p x j || (decide (i ≤ j) && hb (l.getD (j - i) ⟨0, []⟩).f1 x)) (turnA i l rows)
  | [], i, p, rows, h, _, _ => h.congr fun x _ j _ => by simp [hb_high]
  | s :: l, i, p, rows, h, hi, hm => by
    simp only [List.length_cons] at hi
    have h1 := RowsAre.turns (i := i) (by omega) (els (64 * s.f1.length) s.f1) h (fun z hz => els_in (hm s List.mem_cons_self) hz)
    refine (RowsAre.turnA l (i + 1) h1 (by omega) (fun s hs => hm s (List.mem_cons_of_mem _ hs))).congr fun x _ j _ => ?_
    rw [els_mem (n := n)]
    by_cases hj : j = i
    · subst hj
      have e1 : ¬ (j + 1 ≤ j) := by omega
      have e2 : j - j = 0 := by omega
      rw [e2]
      simp only [e1, Nat.le_refl, List.getD_cons_zero, decide_true, decide_false, Bool.and_true, Bool.true_and, Bool.false_and, Bool.or_false]
    · by_cases hij : i ≤ j
      · have h2 : i + 1 ≤ j := by omega
        obtain ⟨d, rfl⟩ : ∃ d, j = i + 1 + d := ⟨j - (i + 1), by omega⟩
        have e1 : i + 1 + d - (i + 1) = d := by omega
        have e2 : i + 1 + d - i = d + 1 := by omega
        rw [e1, e2]
        simp [hj, hij]
      · have h2 : ¬ i + 1 ≤ j := by omega
        simp [hj, hij, h2]
theorem RowsAre.of {n : Int} {l : List S24} (hT : TabP n l) (hg : Goods l) : RowsAre l.length n.toNat (fun x j => hb (l.getD x ⟨0, []⟩).f1 j) l := by
  refine ⟨rfl, fun x hx => ?_⟩
  have h1 := hT.2.2.2 _ (List.getElem_mem hx)
  have h2 := h1.1
  unfold MayS at h2
  rw [h1.2] at h2
  refine ⟨by rw [h1.2]; have := hT.1; omega, ?_⟩
  have e : l.getD x ⟨0, []⟩ = l[x] := by simp [List.getD_eq_getElem?_getD, List.getElem?_eq_getElem hx]
  show Is n.toNat (fun j => hb (l.getD x ⟨0, []⟩).f1 j) l[x].f1
  rw [e]
  exact h2.is (hg _ (List.getElem_mem hx)).1
theorem RowsAre.tab {n m : Nat} {p : Nat → Nat → Bool} {rows : List S24} (h : RowsAre n m p rows) (hn : n ≤ 4096) (hm : m ≤ 4096) : TabP (m : Int) rows ∧ Goods rows := by
  refine ⟨⟨by omega, by omega, by rw [h.1]; exact hn, fun x hx => ?_⟩, fun x hx => ?_⟩
  · obtain ⟨i, hi, rfl⟩ := List.getElem_of_mem hx
    refine ⟨?_, (h.2 i hi).1⟩
    unfold MayS
    rw [(h.2 i hi).1]
    exact (h.2 i hi).2.may hm
  · obtain ⟨i, hi, rfl⟩ := List.getElem_of_mem hx
    have := (h.2 i hi).2
    exact ⟨this.wds, by have := this.len; omega⟩
end Go.Proofs.YtjmkhdhffmlhiaaDoor.PAll
end
section
namespace Go.Proofs.YtjmkhdhffmlhiaaDoor.PAll
set_option linter.unusedVariables false
set_option linter.unusedSimpArgs false
open Go.RowKit Go.Shelf Go.Proofs.YtjmkhdhffmlhiaaDoorW.PrintWords Go.Proofs.YtjmkhdhffmlhiaaDoorW.PrintLast Go.Proofs.YtjmkhdhffmlhiaaDoorW.PrintMore
attribute [local go_sem] Oper.semAt_some
instance instDecWd (x : Int) : Decidable (Wd x) := inferInstanceAs (Decidable (0 ≤ x ∧ x < 18446744073709551616))
instance instDecWds (ws : List Int) : Decidable (Wds ws) := inferInstanceAs (Decidable (∀ x ∈ ws, Wd x))
instance instDecGoods (l : List S24) : Decidable (Goods l) := inferInstanceAs (Decidable (∀ x ∈ l, Wds x.f1 ∧ x.f1.length ≤ 9223372036854775807))
def bitset_Turn.f (k : Nat) (a0_0 : Int) (l0_1 : List S24) : Option (Int × List S24 × Int) :=
  if Goods l0_1 ∧ l0_1.length ≤ 9223372036854775807 then (bitset_MayTable.f k a0_0 l0_1).bind fun b => if b = true then (bitset_blanks.f k (l0_1.length : Int) a0_0).bind fun t => some (t.1, turnA 0 l0_1 t.2, 0) else some (0, [], 61) else none
theorem Ev.eq {α : Type} {g : Nat → Option α} {a b : α} (h : Ev g a) (k : Ev g b) : a = b := by
  obtain ⟨K, h⟩ := h
  obtain ⟨L, k⟩ := k
  have := (h (max K L) (Nat.le_max_left _ _)).symm.trans (k _ (Nat.le_max_right _ _))
  injection this
theorem bitset_Turn.mono : ∀ a0_0 l0_1 k, LeO (bitset_Turn.f k a0_0 l0_1) (bitset_Turn.f (k + 1) a0_0 l0_1) := by
  intro a l k
  unfold bitset_Turn.f
  split
  · exact LeO.bind (bitset_MayTable.mono _ _ _) fun b => LeO.ite (LeO.bind (bitset_blanks.mono _ _ _) fun t => LeO.refl _) (LeO.refl _)
  · exact LeO.none _
end Go.Proofs.YtjmkhdhffmlhiaaDoor.PAll
end
section
namespace Go.Proofs.YtjmkhdhffmlhiaaDoor.PAll
set_option linter.unusedVariables false
open Go.Proofs.YtjmkhdhffmlhiaaDoorW.PrintWords Go.Proofs.YtjmkhdhffmlhiaaDoorW.PrintLast
end Go.Proofs.YtjmkhdhffmlhiaaDoor.PAll
end
section
namespace Go.Proofs.YtjmkhdhffmlhiaaDoor.PAll
open Go.RowKit Go.Proofs.YtjmkhdhffmlhiaaDoorW.PrintWords Go.Proofs.YtjmkhdhffmlhiaaDoorW.PrintLast Go.Proofs.YtjmkhdhffmlhiaaDoorW.PrintMore
attribute [local go_sem] max2_int min2_int max_two min_two max_three min_three max_four min_four w64_u8 w64_mod256   -- for this text's walks alone
set_option linter.unusedVariables false
set_option linter.unusedSimpArgs false
end Go.Proofs.YtjmkhdhffmlhiaaDoor.PAll
end
section
namespace Go.Proofs.YtjmkhdhffmlhiaaDoor.PAll
open Go.RowKit Go.Proofs.YtjmkhdhffmlhiaaDoorW.PrintWords Go.Proofs.YtjmkhdhffmlhiaaDoorW.PrintLast Go.Proofs.YtjmkhdhffmlhiaaDoorW.PrintMore
attribute [local go_sem] max2_int min2_int max_two min_two max_three min_three max_four min_four w64_u8 w64_mod256   -- for this text's walks alone
set_option linter.unusedVariables false
set_option linter.unusedSimpArgs false
end Go.Proofs.YtjmkhdhffmlhiaaDoor.PAll
end
section
namespace Go.Proofs.YtjmkhdhffmlhiaaDoor.PAll
open Go.RowKit Go.Proofs.YtjmkhdhffmlhiaaDoorW.PrintWords Go.Proofs.YtjmkhdhffmlhiaaDoorW.PrintLast Go.Proofs.YtjmkhdhffmlhiaaDoorW.PrintMore
attribute [local go_sem] max2_int min2_int max_two min_two max_three min_three max_four min_four w64_u8 w64_mod256   -- for this text's walks alone
set_option linter.unusedVariables false
set_option linter.unusedSimpArgs false
end Go.Proofs.YtjmkhdhffmlhiaaDoor.PAll
end
section
namespace Go.Proofs.YtjmkhdhffmlhiaaDoor.PAll
open Go.RowKit Go.Proofs.YtjmkhdhffmlhiaaDoorW.PrintWords Go.Proofs.YtjmkhdhffmlhiaaDoorW.PrintLast Go.Proofs.YtjmkhdhffmlhiaaDoorW.PrintMore
attribute [local go_sem] max2_int min2_int max_two min_two max_three min_three max_four min_four w64_u8 w64_mod256   -- for this text's walks alone
set_option linter.unusedVariables false
set_option linter.unusedSimpArgs false
end Go.Proofs.YtjmkhdhffmlhiaaDoor.PAll
end
section
namespace Go.Proofs.YtjmkhdhffmlhiaaDoor.PAll
open Go.RowKit Go.Proofs.YtjmkhdhffmlhiaaDoorW.PrintWords Go.Proofs.YtjmkhdhffmlhiaaDoorW.PrintLast Go.Proofs.YtjmkhdhffmlhiaaDoorW.PrintMore
def foldw (g : Int → Int → Int) (b ws : List Int) : Option (List Int) :=
  if ws.length ≤ b.length then some (List.zipWith g b ws ++ b.drop ws.length) else none
def folds (g : Int → Int → Int) : List Int → List S24 → Option (List Int)
  | b, [] => some b
  | b, s :: l => (foldw g b s.f1).bind fun c => folds g c l
theorem foldw_length {g : Int → Int → Int} {b ws c : List Int} (h : foldw g b ws = some c) : c.length = b.length := by
  unfold foldw at h
  split at h
  · cases h; simp; omega
  · cases h
def bitset_fold_or.f (a0_0 : Int) (l0_1 : List Int) (l1 : List S24) (_a2 : Unit) : Option (Int × List Int) := (folds (Go.bits .or .u64) l0_1 l1).map fun r => (a0_0, r)
def bitset_fold_andNot.f (a0_0 : Int) (l0_1 : List Int) (l1 : List S24) (_a2 : Unit) : Option (Int × List Int) := (folds (Go.bits .andNot .u64) l0_1 l1).map fun r => (a0_0, r)
end Go.Proofs.YtjmkhdhffmlhiaaDoor.PAll
end
section
namespace Go.Proofs.YtjmkhdhffmlhiaaDoor.PAll
set_option linter.unusedVariables false
set_option linter.unusedSimpArgs false
open Go.RowKit Go.Shelf Go.Proofs.YtjmkhdhffmlhiaaDoorW.PrintWords Go.Proofs.YtjmkhdhffmlhiaaDoorW.PrintLast Go.Proofs.YtjmkhdhffmlhiaaDoorW.PrintMore
attribute [local go_sem] Oper.semAt_some
def orw (b ws : List Int) : List Int := List.zipWith (Go.bits .or .u64) b ws ++ b.drop ws.length
theorem orw_eq {b ws : List Int} (h : ws.length ≤ b.length) : foldw (Go.bits .or .u64) b ws = some (orw b ws) := by unfold foldw orw; rw [if_pos h]
theorem orw_length {b ws : List Int} (h : ws.length ≤ b.length) : (orw b ws).length = b.length := foldw_length (orw_eq h)
def prodS (lb : List S24) (j : Nat) (rows : List S24) (e : Int) : List S24 := rows.set j ⟨(rd_T24 rows (j : Int)).f0, orw (rd_T24 rows (j : Int)).f1 (rd_T24 lb e).f1⟩
def prodA (lb : List S24) : Nat → List S24 → List S24 → List S24
  | _, [], rows => rows
  | j, s :: l, rows => prodA lb (j + 1) l ((els (64 * s.f1.length) s.f1).foldl (prodS lb j) rows)
theorem Rok.prod {n m j : Nat} {lb rows : List S24} (h : Rok n m rows) (hj : j < n) (hb : ∀ s ∈ lb, s.f1.length = (m + 63) / 64) {x : Int} (h0 : 0 ≤ x) (h1 : x < lb.length) : Rok n m (prodS lb j rows x) := by
  obtain ⟨e, rfl⟩ := Int.eq_ofNat_of_zero_le h0
  have he : e < lb.length := by omega
  have hjl : j < rows.length := by rw [h.1]; exact hj
  refine ⟨by unfold prodS; rw [List.length_set, h.1], fun r hr => ?_⟩
  unfold prodS at hr
  rcases List.mem_or_eq_of_mem_set hr with hr | rfl
  · exact h.2 r hr
  · rw [rdT_nat rows hjl, rdT_nat lb he]
    have a1 := h.2 _ (List.getElem_mem hjl)
    have a2 := hb _ (List.getElem_mem he)
    simp only
    rw [orw_length (by omega)]
    exact a1
theorem Rok.prods {n m j : Nat} {lb : List S24} (hj : j < n) (hb : ∀ s ∈ lb, s.f1.length = (m + 63) / 64) : ∀ (xs : List Int) {rows : List S24}, Rok n m rows → (∀ x ∈ xs, 0 ≤ x ∧ x < lb.length) → Rok n m (xs.foldl (prodS lb j) rows)
  | [], _, h, _ => h
  | x :: xs, _, h, hx => Rok.prods hj hb xs (h.prod hj hb (hx x List.mem_cons_self).1 (hx x List.mem_cons_self).2) (fun y hy => hx y (List.mem_cons_of_mem _ hy))
end Go.Proofs.YtjmkhdhffmlhiaaDoor.PAll
end
section
namespace Go.Proofs.YtjmkhdhffmlhiaaDoor.PAll
set_option linter.unusedVariables false
set_option linter.unusedSimpArgs false
open Go.RowKit Go.Shelf Go.Proofs.YtjmkhdhffmlhiaaDoorW.PrintWords Go.Proofs.YtjmkhdhffmlhiaaDoorW.PrintLast Go.Proofs.YtjmkhdhffmlhiaaDoorW.PrintMore
attribute [local go_sem] Oper.semAt_some
end Go.Proofs.YtjmkhdhffmlhiaaDoor.PAll
end
section
namespace Go.Proofs.YtjmkhdhffmlhiaaDoor.PAll
open Go.RowKit Go.Proofs.YtjmkhdhffmlhiaaDoorW.PrintWords Go.Proofs.YtjmkhdhffmlhiaaDoorW.PrintMore
structure Bitly (g : Int → Int → Int) (f : Bool → Bool → Bool) : Prop where
  wd : ∀ a b, Wd a → Wd b → Wd (g a b)
  tb : ∀ a b j, Wd a → Wd b → tb (g a b) j = f (tb a j) (tb b j)
  ff : f false false = false
theorem bitly_or : Bitly (Go.bits .or .u64) (fun a b => a || b) := ⟨fun a b _ _ => (or_eq a b).2, fun _ _ j ha hb => tb_or ha hb j, rfl⟩
theorem hb_zip {g : Int → Int → Int} {f : Bool → Bool → Bool} (h : Bitly g f) {b ws : List Int} (hb' : Wds b) (hw : Wds ws) (hl : ws.length = b.length) (e : Nat) : hb (List.zipWith g b ws) e = f (hb b e) (hb ws e) := by
  rcases Nat.lt_or_ge (e / 64) b.length with h1 | h1
  · have h2 : (List.zipWith g b ws).getD (e / 64) 0 = g (b.getD (e / 64) 0) (ws.getD (e / 64) 0) := by
      rw [List.getD_eq_getElem?_getD, List.getD_eq_getElem?_getD, List.getD_eq_getElem?_getD, List.getElem?_zipWith, List.getElem?_eq_getElem h1, List.getElem?_eq_getElem (by omega)]
      rfl
    unfold hb
    rw [h2, h.tb _ _ _ (hb'.getD _) (hw.getD _)]
  · rw [hb_high (ws := b) (by omega), hb_high (ws := ws) (by omega), hb_high (by rw [List.length_zipWith]; omega), h.ff]
theorem zip_Wds {g : Int → Int → Int} {f : Bool → Bool → Bool} (h : Bitly g f) {b ws : List Int} (hb' : Wds b) (hw : Wds ws) : Wds (List.zipWith g b ws) := by
  intro x hx
  obtain ⟨i, hi, rfl⟩ := List.getElem_of_mem hx
  rw [List.getElem_zipWith]
  rw [List.length_zipWith] at hi
  exact h.wd _ _ (hb' _ (List.getElem_mem _)) (hw _ (List.getElem_mem _))
theorem foldw_is {g : Int → Int → Int} {f : Bool → Bool → Bool} (h : Bitly g f) {n : Nat} {p q : Nat → Bool} {b ws : List Int} (hb' : Is n p b) (hw : Is n q ws) : ∃ c, foldw g b ws = some c ∧ Is n (fun d => f (p d) (q d)) c := by
  have hl : ws.length = b.length := by rw [hw.len, hb'.len]
  refine ⟨List.zipWith g b ws, ?_, ?_, zip_Wds h hb'.wds hw.wds, fun e => ?_⟩
  · unfold foldw
    rw [if_pos (by omega), List.drop_eq_nil_of_le (by omega), List.append_nil]
  · rw [List.length_zipWith, hl, Nat.min_self, hb'.len]
  · rw [hb_zip h hb'.wds hw.wds hl, hb'.has, hw.has]
    by_cases he : e < n
    · simp [he]
    · simp [he, h.ff]
end Go.Proofs.YtjmkhdhffmlhiaaDoor.PAll
end
section
namespace Go.Proofs.YtjmkhdhffmlhiaaDoor.PAll
set_option linter.unusedVariables false
set_option linter.unusedSimpArgs false
open Go.RowKit Go.Shelf Go.Proofs.YtjmkhdhffmlhiaaDoorW.PrintWords Go.Proofs.YtjmkhdhffmlhiaaDoorW.PrintLast Go.Proofs.YtjmkhdhffmlhiaaDoorW.PrintMore
attribute [local go_sem] Oper.semAt_some
def bitset_Product.f (k : Nat) (a0_0 : Int) (l0_1 : List S24) (a1_0 : Int) (l1_1 : List S24) : Option (Int × List S24 × Int) :=
  if (Goods l0_1 ∧ l0_1.length ≤ 9223372036854775807) ∧ (Goods l1_1 ∧ l1_1.length ≤ 9223372036854775807) then (bitset_MayTable.f k a0_0 l0_1).bind fun b => if b = true then (bitset_MayTable.f k a1_0 l1_1).bind fun b2 => if b2 = true then
    if a0_0 = (l1_1.length : Int) then (bitset_blanks.f k a1_0 (l0_1.length : Int)).bind fun t => some (t.1, prodA l1_1 0 l0_1 t.2, 0) else some (0, [], 60) else some (0, [], 61) else some (0, [], 61) else none
theorem orw_is {n : Nat} {p q : Nat → Bool} {b ws : List Int} (hb' : Is n p b) (hw : Is n q ws) : Is n (fun d => p d || q d) (orw b ws) := by
  have hl : ws.length ≤ b.length := by rw [hw.len, hb'.len]; exact Nat.le_refl _
  obtain ⟨c, hc, hi⟩ := foldw_is bitly_or hb' hw
  rw [orw_eq hl] at hc
  cases hc
  exact hi
theorem RowsAre.prod {n m r : Nat} {p q : Nat → Nat → Bool} {lb rows : List S24} (hb' : RowsAre r m q lb) (h : RowsAre n m p rows) {j : Nat} (hj : j < n) {e : Nat} (he : e < r) : RowsAre n m (fun x d => p x d || (decide (x = j) && q e d)) (prodS lb j rows (e : Int)) := by
  have hjl : j < rows.length := by rw [h.1]; exact hj
  have hel : e < lb.length := by rw [hb'.1]; exact he
  unfold prodS
  rw [rdT_nat rows hjl, rdT_nat lb hel]
  obtain ⟨a1, a2⟩ := h.2 j hjl
  refine (h.set _ a1 (orw_is a2 (hb'.2 e hel).2)).congr fun x _ d _ => ?_
  by_cases hx : x = j
  · subst hx; simp
  · simp [hx]
theorem RowsAre.prods {n m r : Nat} {q : Nat → Nat → Bool} {lb : List S24} (hb' : RowsAre r m q lb) {j : Nat} (hj : j < n) : ∀ (xs : List Int) {p : Nat → Nat → Bool} {rows : List S24}, RowsAre n m p rows → (∀ z ∈ xs, 0 ≤ z ∧ z < r) → RowsAre n m (fun x d => p x d || (decide (x = j) && xs.any (fun z => q z.toNat d))) (xs.foldl (prodS lb j) rows)
  | [], p, rows, h, _ => h.congr fun x _ d _ => by simp
  | z :: xs, p, rows, h, hz => by
    obtain ⟨y, rfl⟩ := Int.eq_ofNat_of_zero_le (hz z List.mem_cons_self).1
    have hy : y < r := by have := (hz _ List.mem_cons_self).2; omega
    refine (RowsAre.prods hb' hj xs (RowsAre.prod hb' h hj hy) (fun z h => hz z (List.mem_cons_of_mem _ h))).congr fun x _ d _ => ?_
    simp only [List.any_cons, Int.toNat_natCast]
    generalize p x d = a1
    generalize decide (x = j) = a2
    generalize q y d = a3
    generalize xs.any (fun z => q z.toNat d) = a4
    revert a1 a2 a3 a4
    decide
theorem els_any {r : Nat} {ws : List Int} (hM : MayP (r : Int) ws) (f : Nat → Bool) : (els (64 * ws.length) ws).any (fun z => f z.toNat) = (List.range r).any fun e => hb ws e && f e := by
  rw [Bool.eq_iff_iff, List.any_eq_true, List.any_eq_true]
  constructor
  · rintro ⟨z, hz, h⟩
    obtain ⟨j, _, j2, rfl⟩ := mem_els.1 hz
    have hj : j < r := by have := (els_in hM hz).2; omega
    exact ⟨j, List.mem_range.2 hj, by rw [j2]; simpa using h⟩
  · rintro ⟨e, he, h⟩
    rw [Bool.and_eq_true] at h
    exact ⟨(e : Int), mem_els.2 ⟨e, Nat.lt_of_not_le (fun hle => by rw [hb_high hle] at h; cases h.1), h.1, rfl⟩, by simpa using h.2⟩
theorem RowsAre.prodA {n m r : Nat} {q : Nat → Nat → Bool} {lb : List S24} (hb' : RowsAre r m q lb) : ∀ (l : List S24) (i : Nat) {p : Nat → Nat → Bool} {rows : List S24}, RowsAre n m p rows → i + l.length ≤ n → (∀ s ∈ l, MayP (r : Int) s.f1) → RowsAre n m (fun x d => p x d || (decide (i ≤ x) && (List.range r).any fun e => hb (l.getD (x - i) ⟨0, []⟩).f1 e && q e d)) (prodA lb i l rows)
  | [], i, p, rows, h, _, _ => h.congr fun x _ d _ => by simp [hb_high]
  | s :: l, i, p, rows, h, hi, hm => by
    simp only [List.length_cons] at hi
    have h1 := RowsAre.prods hb' (j := i) (by omega) (els (64 * s.f1.length) s.f1) h (fun z hz => els_in (hm s List.mem_cons_self) hz)
    refine (RowsAre.prodA hb' l (i + 1) h1 (by omega) (fun s hs => hm s (List.mem_cons_of_mem _ hs))).congr fun x _ d _ => ?_
    rw [els_any (hm s List.mem_cons_self) (fun e => q e d)]
    by_cases hx : x = i
    · subst hx
      have e1 : ¬ (x + 1 ≤ x) := by omega
      have e2 : x - x = 0 := by omega
      rw [e2]
      simp only [e1, Nat.le_refl, List.getD_cons_zero, decide_true, decide_false, Bool.true_and, Bool.false_and, Bool.or_false]
    · by_cases hix : i ≤ x
      · have h2 : i + 1 ≤ x := by omega
        obtain ⟨c, rfl⟩ : ∃ c, x = i + 1 + c := ⟨x - (i + 1), by omega⟩
        have e1 : i + 1 + c - (i + 1) = c := by omega
        have e2 : i + 1 + c - i = c + 1 := by omega
        rw [e1, e2]
        simp [hx, hix]
      · have h2 : ¬ i + 1 ≤ x := by omega
        simp [hx, hix, h2]
end Go.Proofs.YtjmkhdhffmlhiaaDoor.PAll
end
section
namespace Go.Proofs.YtjmkhdhffmlhiaaDoor.PAll
open Go.RowKit Go.Proofs.YtjmkhdhffmlhiaaDoorW.PrintWords Go.Proofs.YtjmkhdhffmlhiaaDoorW.PrintLast Go.Proofs.YtjmkhdhffmlhiaaDoorW.PrintMore
attribute [local go_sem] max2_int min2_int max_two min_two max_three min_three max_four min_four w64_u8 w64_mod256   -- for this text's walks alone
set_option linter.unusedVariables false
set_option linter.unusedSimpArgs false
end Go.Proofs.YtjmkhdhffmlhiaaDoor.PAll
end
section
namespace Go.Proofs.YtjmkhdhffmlhiaaDoor.PAll
set_option linter.unusedVariables false
open Go.RowKit Go.Shelf Go.Proofs.YtjmkhdhffmlhiaaDoorW.PrintWords Go.Proofs.YtjmkhdhffmlhiaaDoorW.PrintLast Go.Proofs.YtjmkhdhffmlhiaaDoorW.PrintMore
def bothS (j : Nat) (rows : List S24) (s : S24) : List S24 := rows.set j ⟨(rd_T24 rows (j : Int)).f0, orw (rd_T24 rows (j : Int)).f1 s.f1⟩
def bothA : Nat → List S24 → List S24 → List S24
  | _, [], rows => rows
  | j, s :: l, rows => bothA (j + 1) l (bothS j rows s)
def bitset_Both.f (k : Nat) (a0_0 : Int) (l0_1 : List S24) : Option (Int × List S24 × Int) :=
  if Goods l0_1 ∧ l0_1.length ≤ 9223372036854775807 then (bitset_MayTable.f k a0_0 l0_1).bind fun b => if b = true then
    if a0_0 = (l0_1.length : Int) then (bitset_Turn.f k a0_0 l0_1).bind fun t => some (t.1, bothA 0 l0_1 t.2.1, 0) else some (0, [], 60) else some (0, [], 61) else none
theorem bitset_Both.mono : ∀ a0_0 l0_1 k, LeO (bitset_Both.f k a0_0 l0_1) (bitset_Both.f (k + 1) a0_0 l0_1) := by
  intro a l k
  unfold bitset_Both.f
  split
  · exact LeO.bind (bitset_MayTable.mono _ _ _) fun b => LeO.ite (LeO.ite (LeO.bind (bitset_Turn.mono _ _ _) fun t => LeO.refl _) (LeO.refl _)) (LeO.refl _)
  · exact LeO.none _
theorem RowsAre.both {n m : Nat} {p : Nat → Nat → Bool} {rows : List S24} (h : RowsAre n m p rows) {j : Nat} (hj : j < n) {s : S24} {q : Nat → Bool} (hs : Is m q s.f1) : RowsAre n m (fun x d => p x d || (decide (x = j) && q d)) (bothS j rows s) := by
  have hjl : j < rows.length := by rw [h.1]; exact hj
  unfold bothS
  rw [rdT_nat rows hjl]
  obtain ⟨a1, a2⟩ := h.2 j hjl
  refine (h.set _ a1 (orw_is a2 hs)).congr fun x _ d _ => ?_
  by_cases hx : x = j
  · subst hx; simp
  · simp [hx]
theorem RowsAre.bothA {n m : Nat} : ∀ (l : List S24) (i : Nat) {p : Nat → Nat → Bool} {rows : List S24}, RowsAre n m p rows → i + l.length ≤ n → (∀ s ∈ l, MayP (m : Int) s.f1 ∧ Wds s.f1) → RowsAre n m (fun x d => p x d || (decide (i ≤ x) && hb (l.getD (x - i) ⟨0, []⟩).f1 d)) (bothA i l rows)
  | [], i, p, rows, h, _, _ => h.congr fun x _ d _ => by simp [hb_high]
  | s :: l, i, p, rows, h, hi, hm => by
    simp only [List.length_cons] at hi
    have hs := hm s List.mem_cons_self
    have h1 := h.both (j := i) (by omega) (s := s) (q := hb s.f1) (by have := hs.1.is hs.2; rwa [Int.toNat_natCast] at this)
    refine (RowsAre.bothA l (i + 1) h1 (by omega) (fun s hs => hm s (List.mem_cons_of_mem _ hs))).congr fun x _ d _ => ?_
    by_cases hx : x = i
    · subst hx
      have e1 : ¬ (x + 1 ≤ x) := by omega
      have e2 : x - x = 0 := by omega
      rw [e2]
      simp only [e1, Nat.le_refl, List.getD_cons_zero, decide_true, decide_false, Bool.true_and, Bool.false_and, Bool.or_false]
    · by_cases hix : i ≤ x
      · have h2 : i + 1 ≤ x := by omega
        obtain ⟨c, rfl⟩ : ∃ c, x = i + 1 + c := ⟨x - (i + 1), by omega⟩
        have e1 : i + 1 + c - (i + 1) = c := by omega
        have e2 : i + 1 + c - i = c + 1 := by omega
        rw [e1, e2]
        simp [hx, hix]
      · have h2 : ¬ i + 1 ≤ x := by omega
        simp [hx, hix, h2]
end Go.Proofs.YtjmkhdhffmlhiaaDoor.PAll
end
section
namespace Go.Proofs.YtjmkhdhffmlhiaaDoor.PAll
set_option linter.unusedVariables false
open Go.RowKit Go.Shelf Go.Proofs.YtjmkhdhffmlhiaaDoorW.PrintWords Go.Proofs.YtjmkhdhffmlhiaaDoorW.PrintLast Go.Proofs.YtjmkhdhffmlhiaaDoorW.PrintMore
end Go.Proofs.YtjmkhdhffmlhiaaDoor.PAll
end
section
namespace Go.Proofs.YtjmkhdhffmlhiaaDoor.PAll
set_option linter.unusedVariables false
set_option linter.unusedSimpArgs false
open Go.RowKit Go.Shelf Go.Proofs.YtjmkhdhffmlhiaaDoorW.PrintWords Go.Proofs.YtjmkhdhffmlhiaaDoorW.PrintLast Go.Proofs.YtjmkhdhffmlhiaaDoorW.PrintMore
attribute [local go_sem] Oper.semAt_some
def makeS (j : Nat) (rows : List S24) (s : S24) : List S24 := rows.set j ⟨(rd_T24 rows (j : Int)).f0, s.f1⟩
def makeA : Nat → List S24 → List S24 → List S24
  | _, [], rows => rows
  | j, s :: l, rows => makeA (j + 1) l (makeS j rows s)
theorem Rok.make {n m j : Nat} {rows : List S24} (h : Rok n m rows) {s : S24} (hs : s.f1.length = (m + 63) / 64) : Rok n m (makeS j rows s) := by
  refine ⟨by unfold makeS; rw [List.length_set, h.1], fun r hr => ?_⟩
  unfold makeS at hr
  rcases List.mem_or_eq_of_mem_set hr with hr | rfl
  · exact h.2 r hr
  · exact hs
end Go.Proofs.YtjmkhdhffmlhiaaDoor.PAll
end
section
namespace Go.Proofs.YtjmkhdhffmlhiaaDoor.PAll
set_option linter.unusedVariables false
set_option linter.unusedSimpArgs false
open Go.RowKit Go.Proofs.YtjmkhdhffmlhiaaDoorW.PrintWords Go.Proofs.YtjmkhdhffmlhiaaDoorW.PrintLast Go.Proofs.YtjmkhdhffmlhiaaDoorW.PrintMore
end Go.Proofs.YtjmkhdhffmlhiaaDoor.PAll
end
section
namespace Go.Proofs.YtjmkhdhffmlhiaaDoor.PAll
set_option linter.unusedVariables false
set_option linter.unusedSimpArgs false
open Go.RowKit Go.Shelf Go.Proofs.YtjmkhdhffmlhiaaDoorW.PrintWords Go.Proofs.YtjmkhdhffmlhiaaDoorW.PrintLast Go.Proofs.YtjmkhdhffmlhiaaDoorW.PrintMore
attribute [local go_sem] Oper.semAt_some
theorem Rok.both {n m j : Nat} {rows : List S24} (h : Rok n m rows) (hj : j < n) {s : S24} (hs : s.f1.length = (m + 63) / 64) : Rok n m (bothS j rows s) := by
  have hjl : j < rows.length := by rw [h.1]; exact hj
  refine ⟨by unfold bothS; rw [List.length_set, h.1], fun r hr => ?_⟩
  unfold bothS at hr
  rcases List.mem_or_eq_of_mem_set hr with hr | rfl
  · exact h.2 r hr
  · rw [rdT_nat rows hjl]
    have a1 := h.2 _ (List.getElem_mem hjl)
    simp only
    rw [orw_length (by omega)]
    exact a1
end Go.Proofs.YtjmkhdhffmlhiaaDoor.PAll
end
section
namespace Go.Proofs.YtjmkhdhffmlhiaaDoor.PAll
set_option linter.unusedVariables false
set_option linter.unusedSimpArgs false
open Go.RowKit Go.Proofs.YtjmkhdhffmlhiaaDoorW.PrintWords Go.Proofs.YtjmkhdhffmlhiaaDoorW.PrintLast Go.Proofs.YtjmkhdhffmlhiaaDoorW.PrintMore
end Go.Proofs.YtjmkhdhffmlhiaaDoor.PAll
end
section
namespace Go.Proofs.YtjmkhdhffmlhiaaDoor.PAll
set_option linter.unusedVariables false
set_option linter.unusedSimpArgs false
open Go.RowKit Go.Shelf Go.Proofs.YtjmkhdhffmlhiaaDoorW.PrintWords Go.Proofs.YtjmkhdhffmlhiaaDoorW.PrintLast Go.Proofs.YtjmkhdhffmlhiaaDoorW.PrintMore
attribute [local go_sem] Oper.semAt_some
def bitset_MakeTable.f (k : Nat) (a0 : Int) (l1 : List S24) : Option (Int × List S24 × Int) :=
  if Goods l1 ∧ l1.length ≤ 9223372036854775807 then (bitset_fit.f k a0 l1).bind fun r => if r = 0 then (if (4096 : Int) < (l1.length : Int) then some (0, [], 1) else (bitset_blanks.f k a0 (l1.length : Int)).bind fun t => some (t.1, makeA 0 l1 t.2, 0)) else some (0, [], r) else none
theorem FitSays.zero {n : Int} {l : List S24} (h : FitSays n l 0) : (∀ x ∈ l, MayS x ∧ x.f0 = n) ∧ 0 ≤ n ∧ n ≤ 4096 := by
  rcases h with ⟨h1, _⟩ | ⟨h1, _⟩ | ⟨_, h1, h2, h3⟩
  · omega
  · omega
  · exact ⟨fun x hx => ⟨h1 x hx, h2 x hx⟩, h3⟩
end Go.Proofs.YtjmkhdhffmlhiaaDoor.PAll
end
section
namespace Go.Proofs.YtjmkhdhffmlhiaaDoor.PAll
set_option linter.unusedVariables false
set_option linter.unusedSimpArgs false
open Go.RowKit Go.Shelf Go.Proofs.YtjmkhdhffmlhiaaDoorW.PrintWords Go.Proofs.YtjmkhdhffmlhiaaDoorW.PrintLast Go.Proofs.YtjmkhdhffmlhiaaDoorW.PrintMore
attribute [local go_sem] Oper.semAt_some
def clS (k : Nat) (rows : List S24) (i : Nat) : List S24 := if hb (rd_T24 rows (i : Int)).f1 k = true then (if i = k then rows else bothS i rows (rd_T24 rows (k : Int))) else rows
def clI (k : Nat) : Nat → Nat → List S24 → List S24
  | 0, _, rows => rows
  | d + 1, i, rows => clI k d (i + 1) (clS k rows i)
def clO (n : Nat) : Nat → Nat → List S24 → List S24
  | 0, _, rows => rows
  | d + 1, k, rows => clO n d (k + 1) (clI k n 0 rows)
def Rw (n : Nat) (rows : List S24) : Prop := rows.length = n ∧ ∀ r ∈ rows, r.f1.length = (n + 63) / 64 ∧ Wds r.f1
theorem orw_Wds {b ws : List Int} (h : Wds b) (k : Wds ws) : Wds (orw b ws) := by
  intro x hx
  unfold orw at hx
  rcases List.mem_append.1 hx with hx | hx
  · exact zip_Wds bitly_or h k x hx
  · exact h x (List.mem_of_mem_drop hx)
theorem Rw.step {n k i : Nat} {rows : List S24} (h : Rw n rows) (hk : k < n) (hi : i < n) : Rw n (clS k rows i) := by
  unfold clS
  split
  · split
    · exact h
    · have hil : i < rows.length := by rw [h.1]; exact hi
      have hkl : k < rows.length := by rw [h.1]; exact hk
      have h1 := h.2 _ (List.getElem_mem hil)
      have h2 := h.2 _ (List.getElem_mem hkl)
      refine ⟨by unfold bothS; rw [List.length_set, h.1], fun r hr => ?_⟩
      unfold bothS at hr
      rcases List.mem_or_eq_of_mem_set hr with hr | rfl
      · exact h.2 r hr
      · rw [rdT_nat rows hil, rdT_nat rows hkl]
        exact ⟨by simp only; rw [orw_length (by omega)]; exact h1.1, orw_Wds h1.2 h2.2⟩
  · exact h
end Go.Proofs.YtjmkhdhffmlhiaaDoor.PAll
end
section
namespace Go.Proofs.YtjmkhdhffmlhiaaDoor.PAll
set_option linter.unusedVariables false
set_option linter.unusedSimpArgs false
open Go.RowKit Go.Shelf Go.Proofs.YtjmkhdhffmlhiaaDoorW.PrintWords Go.Proofs.YtjmkhdhffmlhiaaDoorW.PrintLast Go.Proofs.YtjmkhdhffmlhiaaDoorW.PrintMore
attribute [local go_sem] Oper.semAt_some
def bitset_Closure.f (k : Nat) (a0_0 : Int) (l0_1 : List S24) : Option (Int × List S24 × Int) :=
  if Goods l0_1 ∧ l0_1.length ≤ 9223372036854775807 then (bitset_MayTable.f k a0_0 l0_1).bind fun b => if b = true then
    if a0_0 = (l0_1.length : Int) then (bitset_MakeTable.f k a0_0 l0_1).bind fun t => some (t.1, clO l0_1.length l0_1.length 0 t.2.1, 0) else some (0, [], 60) else some (0, [], 61) else none
theorem RowsAre.rw {n : Nat} {p : Nat → Nat → Bool} {rows : List S24} (h : RowsAre n n p rows) : Rw n rows :=
  ⟨h.1, fun r hr => by obtain ⟨i, hi, rfl⟩ := List.getElem_of_mem hr; exact ⟨(h.2 i hi).2.len, (h.2 i hi).2.wds⟩⟩
end Go.Proofs.YtjmkhdhffmlhiaaDoor.PAll
end
section
namespace Go.Proofs.YtjmkhdhffmlhiaaDoor.PAll
set_option linter.unusedVariables false
set_option linter.unusedSimpArgs false
open Go.RowKit Go.Shelf Go.Proofs.YtjmkhdhffmlhiaaDoorW.PrintWords Go.Proofs.YtjmkhdhffmlhiaaDoorW.PrintLast Go.Proofs.YtjmkhdhffmlhiaaDoorW.PrintMore
def way (p : Nat → Nat → Bool) : Nat → Nat → Nat → Bool
  | 0, x, y => p x y
  | k + 1, x, y => way p k x y || (way p k x k && way p k k y)
theorem RowsAre.cl {n : Nat} {p : Nat → Nat → Bool} {rows : List S24} (h : RowsAre n n p rows) {k i : Nat} (hk : k < n) (hi : i < n) : RowsAre n n (fun x d => p x d || (decide (x = i) && (p i k && p k d))) (clS k rows i) := by
  have hil : i < rows.length := by rw [h.1]; exact hi
  have hkl : k < rows.length := by rw [h.1]; exact hk
  have hik := (h.2 i hil).2.has k
  unfold clS
  rw [rdT_nat rows hil, rdT_nat rows hkl, hik]
  simp only [hk, decide_true, Bool.true_and]
  by_cases hp : p i k = true
  · rw [if_pos hp]
    by_cases he : i = k
    · rw [if_pos he]
      subst he
      refine h.congr fun x _ d _ => ?_
      by_cases hx : x = i
      · subst hx; rw [hp]; simp
      · simp [hx]
    · rw [if_neg he]
      refine (h.both hi (h.2 k hkl).2).congr fun x _ d _ => ?_
      rw [hp, Bool.true_and]
  · rw [if_neg hp]
    have hp' : p i k = false := by simpa using hp
    exact h.congr fun x _ d _ => by rw [hp']; simp
theorem RowsAre.clI {n : Nat} {k : Nat} (hk : k < n) : ∀ (d i : Nat) {p : Nat → Nat → Bool} {rows : List S24}, RowsAre n n p rows → i + d = n → RowsAre n n (fun x y => p x y || (decide (i ≤ x) && (p x k && p k y))) (clI k d i rows)
  | 0, i, p, rows, h, hi => by
    refine h.congr fun x hx y _ => ?_
    have : ¬ i ≤ x := by omega
    simp [this]
  | d + 1, i, p, rows, h, hi => by
    have hin : i < n := by omega
    refine (RowsAre.clI hk d (i + 1) (h.cl hk hin) (by omega)).congr fun x hx y _ => ?_
    by_cases hxi : x = i
    · subst hxi
      have h1 : ¬ x + 1 ≤ x := by omega
      simp [h1]
    · by_cases hle : i ≤ x
      · have h1 : i + 1 ≤ x := by omega
        by_cases hki : k = i
        · subst hki
          simp only [hxi, hle, h1, decide_true, decide_false, Bool.true_and, Bool.false_and, Bool.or_false]
          generalize p x y = a1
          generalize p x k = a2
          generalize p k y = a3
          generalize p k k = a4
          revert a1 a2 a3 a4
          decide
        · simp [hxi, hle, h1, hki]
      · have h1 : ¬ i + 1 ≤ x := by omega
        simp [hxi, hle, h1]
theorem RowsAre.clO {n : Nat} {p : Nat → Nat → Bool} : ∀ (d k : Nat) {rows : List S24}, RowsAre n n (way p k) rows → k + d = n → RowsAre n n (way p n) (clO n d k rows)
  | 0, k, rows, h, hk => by
    rw [Nat.add_zero] at hk
    subst hk
    exact h
  | d + 1, k, rows, h, hk => RowsAre.clO d (k + 1) ((RowsAre.clI (by omega) n 0 h (by omega)).congr fun x _ y _ => by rw [way]; simp) (by omega)
end Go.Proofs.YtjmkhdhffmlhiaaDoor.PAll
end
section
namespace Go.Proofs.YtjmkhdhffmlhiaaDoor.PAll
open Go.RowKit Go.Proofs.YtjmkhdhffmlhiaaDoorW.PrintWords Go.Proofs.YtjmkhdhffmlhiaaDoorW.PrintLast Go.Proofs.YtjmkhdhffmlhiaaDoorW.PrintMore
attribute [local go_sem] max2_int min2_int max_two min_two max_three min_three max_four min_four w64_u8 w64_mod256   -- for this text's walks alone
set_option linter.unusedVariables false
set_option linter.unusedSimpArgs false
end Go.Proofs.YtjmkhdhffmlhiaaDoor.PAll
end
section
namespace Go.Proofs.YtjmkhdhffmlhiaaDoor.PAll
open Go.RowKit Go.Proofs.YtjmkhdhffmlhiaaDoorW.PrintWords Go.Proofs.YtjmkhdhffmlhiaaDoorW.PrintLast Go.Proofs.YtjmkhdhffmlhiaaDoorW.PrintMore
attribute [local go_sem] max2_int min2_int max_two min_two max_three min_three max_four min_four w64_u8 w64_mod256   -- for this text's walks alone
set_option linter.unusedVariables false
set_option linter.unusedSimpArgs false
end Go.Proofs.YtjmkhdhffmlhiaaDoor.PAll
end
section
namespace Go.Proofs.YtjmkhdhffmlhiaaDoor.PAll
open Go.RowKit Go.Proofs.YtjmkhdhffmlhiaaDoorW.PrintWords Go.Proofs.YtjmkhdhffmlhiaaDoorW.PrintLast Go.Proofs.YtjmkhdhffmlhiaaDoorW.PrintMore
attribute [local go_sem] max2_int min2_int max_two min_two max_three min_three max_four min_four w64_u8 w64_mod256   -- for this text's walks alone
set_option linter.unusedVariables false
set_option linter.unusedSimpArgs false
def bitset_Range.l0 : Nat → Int → Int → Int → Int → Int → List Int → Option (Int × List Int × Int)
  | 0, _, _, _, _, _, _ => none
  | k + 1, x1, x2, x26, x27, x108000, x108001 => if x27 < x26 then (if (mx (wrap64 (x1 - (wrap64 (x27 * 64)))) 0) < (mn (wrap64 (x2 - (wrap64 (x27 * 64)))) 64) then (if 0 ≤ (wrap64 (64 - (wrap64 ((mn (wrap64 (x2 - (wrap64 (x27 * 64)))) 64) - (mx (wrap64 (x1 - (wrap64 (x27 * 64)))) 0))))) then (if 0 ≤ x27 then (if x27 < (x108001.length : Int) then (bitset_Range.l0 k x1 x2 x26 (wrap64 (x27 + 1)) x108000 (x108001.set (x27 : Int).toNat (shl .u64 (shr .u64 18446744073709551615 (wrap64 (64 - (wrap64 ((mn (wrap64 (x2 - (wrap64 (x27 * 64)))) 64) - (mx (wrap64 (x1 - (wrap64 (x27 * 64)))) 0)))))) (mx (wrap64 (x1 - (wrap64 (x27 * 64)))) 0)))) else (none)) else (none)) else (none)) else (bitset_Range.l0 k x1 x2 x26 (wrap64 (x27 + 1)) x108000 x108001)) else (some (x108000, x108001, 0))
def bitset_Range.f (k : Nat) (a0 : Int) (a1 : Int) (a2 : Int) : Option (Int × List Int × Int) := (bitset_sized.f a0).bind fun t102 => (if t102 = true then ((bitset_blank.f a0).bind fun bt103 => (bitset_Range.l0 k (mx a1 0) (mx (mn a2 a0) 0) (bt103.2.length : Int) 0 bt103.1 bt103.2)) else (some (0, ([] : List Int), 60)))
end Go.Proofs.YtjmkhdhffmlhiaaDoor.PAll
end
section
namespace Go.Proofs.YtjmkhdhffmlhiaaDoor.PAll
open Go.RowKit Go.Proofs.YtjmkhdhffmlhiaaDoorW.PrintWords Go.Proofs.YtjmkhdhffmlhiaaDoorW.PrintLast Go.Proofs.YtjmkhdhffmlhiaaDoorW.PrintMore
attribute [local go_sem] max2_int min2_int max_two min_two max_three min_three max_four min_four w64_u8 w64_mod256   -- for this text's walks alone
set_option linter.unusedVariables false
set_option linter.unusedSimpArgs false
end Go.Proofs.YtjmkhdhffmlhiaaDoor.PAll
end
section
namespace Go.Proofs.YtjmkhdhffmlhiaaDoor.PAll
open Go.RowKit Go.Proofs.YtjmkhdhffmlhiaaDoorW.PrintWords Go.Proofs.YtjmkhdhffmlhiaaDoorW.PrintLast Go.Proofs.YtjmkhdhffmlhiaaDoorW.PrintMore
attribute [local go_sem] max2_int min2_int max_two min_two max_three min_three max_four min_four w64_u8 w64_mod256   -- for this text's walks alone
set_option linter.unusedVariables false
set_option linter.unusedSimpArgs false
def bitset_two_andNot.j0 : Nat → Unit → Bool → Int → List Int → Int → List Int → Option (Int × List Int × Int)
  | 0, _, _, _, _, _, _ => none
  | k + 1, x2, x15, x102000, x102001, x103000, x103001 => if x15 = true then (some (0, ([] : List Int), 61)) else (if x102000 = x103000 then ((bitset_own.f x102000 x102001).bind fun t106 => ((bitset_fold_andNot.f x102000 t106 (([(⟨x103000, x103001⟩ : S24)] : List (S24))) x2).bind fun bt112 => (some (bt112.1, bt112.2, 0)))) else (some (0, ([] : List Int), 60)))
def bitset_two_andNot.f (k : Nat) (a0_0 : Int) (l0_1 : List Int) (a1_0 : Int) (l1_1 : List Int) (a2 : Unit) : Option (Int × List Int × Int) := (bitset_May.f a0_0 l0_1).bind fun t104 => (if t104 = true then ((bitset_May.f a1_0 l1_1).bind fun t105 => (bitset_two_andNot.j0 k a2 (!t105) a0_0 l0_1 a1_0 l1_1)) else (bitset_two_andNot.j0 k a2 true a0_0 l0_1 a1_0 l1_1))
end Go.Proofs.YtjmkhdhffmlhiaaDoor.PAll
end
section
namespace Go.Proofs.YtjmkhdhffmlhiaaDoor.PAll
open Go.RowKit Go.Proofs.YtjmkhdhffmlhiaaDoorW.PrintWords Go.Proofs.YtjmkhdhffmlhiaaDoorW.PrintLast Go.Proofs.YtjmkhdhffmlhiaaDoorW.PrintMore
attribute [local go_sem] max2_int min2_int max_two min_two max_three min_three max_four min_four w64_u8 w64_mod256   -- for this text's walks alone
set_option linter.unusedVariables false
set_option linter.unusedSimpArgs false
end Go.Proofs.YtjmkhdhffmlhiaaDoor.PAll
end
section
namespace Go.Proofs.YtjmkhdhffmlhiaaDoor.PAll
open Go.RowKit Go.Proofs.YtjmkhdhffmlhiaaDoorW.PrintWords Go.Proofs.YtjmkhdhffmlhiaaDoorW.PrintLast Go.Proofs.YtjmkhdhffmlhiaaDoorW.PrintMore
attribute [local go_sem] max2_int min2_int max_two min_two max_three min_three max_four min_four w64_u8 w64_mod256   -- for this text's walks alone
set_option linter.unusedVariables false
set_option linter.unusedSimpArgs false
def bitset_none_andNot.f (k : Nat) (a0_0 : Int) (l0_1 : List Int) (a1_0 : Int) (l1_1 : List Int) (a2 : Unit) : Option (Bool) := (bitset_two_andNot.f k a0_0 l0_1 a1_0 l1_1 a2).bind fun bt103 => (if bt103.2.2 = 0 then ((bitset_Count.f k bt103.1 bt103.2.1).bind fun t109 => (some (t109 == 0))) else (some false))
end Go.Proofs.YtjmkhdhffmlhiaaDoor.PAll
end
section
namespace Go.Proofs.YtjmkhdhffmlhiaaDoor.PAll
open Go.RowKit Go.Proofs.YtjmkhdhffmlhiaaDoorW.PrintWords Go.Proofs.YtjmkhdhffmlhiaaDoorW.PrintLast Go.Proofs.YtjmkhdhffmlhiaaDoorW.PrintMore
attribute [local go_sem] max2_int min2_int max_two min_two max_three min_three max_four min_four w64_u8 w64_mod256   -- for this text's walks alone
set_option linter.unusedVariables false
set_option linter.unusedSimpArgs false
def bitset_Subset.f (k : Nat) (a0_0 : Int) (l0_1 : List Int) (a1_0 : Int) (l1_1 : List Int) : Option (Bool) := (bitset_none_andNot.f k a0_0 l0_1 a1_0 l1_1 ()).bind fun t103 => (some t103)
end Go.Proofs.YtjmkhdhffmlhiaaDoor.PAll
end
section
namespace Go.Proofs.YtjmkhdhffmlhiaaDoor.PAll
open Go.RowKit Go.Proofs.YtjmkhdhffmlhiaaDoorW.PrintWords Go.Proofs.YtjmkhdhffmlhiaaDoorW.PrintLast Go.Proofs.YtjmkhdhffmlhiaaDoorW.PrintMore
attribute [local go_sem] max2_int min2_int max_two min_two max_three min_three max_four min_four w64_u8 w64_mod256   -- for this text's walks alone
set_option linter.unusedVariables false
set_option linter.unusedSimpArgs false
def bitset_Union.f (k : Nat) (a0 : Int) (l1 : List (S24)) : Option (Int × List Int × Int) := (bitset_fit.f k a0 l1).bind fun t102 => (if t102 = 0 then ((bitset_blank.f a0).bind fun bt103 => ((bitset_fold_or.f bt103.1 bt103.2 l1 ()).bind fun bt107 => (some (bt107.1, bt107.2, 0)))) else (some (0, ([] : List Int), t102)))
end Go.Proofs.YtjmkhdhffmlhiaaDoor.PAll
end
section
namespace Go.Proofs.YtjmkhdhffmlhiaaDoor.PAll
open Go.RowKit Go.Proofs.YtjmkhdhffmlhiaaDoorW.PrintWords Go.Proofs.YtjmkhdhffmlhiaaDoorW.PrintLast Go.Proofs.YtjmkhdhffmlhiaaDoorW.PrintMore
attribute [local go_sem] max2_int min2_int max_two min_two max_three min_three max_four min_four w64_u8 w64_mod256   -- for this text's walks alone
set_option linter.unusedVariables false
set_option linter.unusedSimpArgs false
end Go.Proofs.YtjmkhdhffmlhiaaDoor.PAll
end
section
namespace Go.Proofs.YtjmkhdhffmlhiaaDoor.PAll
open Go.RowKit Go.Proofs.YtjmkhdhffmlhiaaDoorW.PrintWords Go.Proofs.YtjmkhdhffmlhiaaDoorW.PrintLast Go.Proofs.YtjmkhdhffmlhiaaDoorW.PrintMore
attribute [local go_sem] max2_int min2_int max_two min_two max_three min_three max_four min_four w64_u8 w64_mod256   -- for this text's walks alone
set_option linter.unusedVariables false
set_option linter.unusedSimpArgs false
end Go.Proofs.YtjmkhdhffmlhiaaDoor.PAll
end
section
namespace Go.Proofs.YtjmkhdhffmlhiaaDoor.PAll
open Go.RowKit Go.Proofs.YtjmkhdhffmlhiaaDoorW.PrintWords Go.Proofs.YtjmkhdhffmlhiaaDoorW.PrintLast Go.Proofs.YtjmkhdhffmlhiaaDoorW.PrintMore
attribute [local go_sem] max2_int min2_int max_two min_two max_three min_three max_four min_four w64_u8 w64_mod256   -- for this text's walks alone
set_option linter.unusedVariables false
set_option linter.unusedSimpArgs false
end Go.Proofs.YtjmkhdhffmlhiaaDoor.PAll
end
section
namespace Go.Proofs.YtjmkhdhffmlhiaaDoor.PAll
set_option linter.unusedVariables false
open Go.RowKit Go.Proofs.YtjmkhdhffmlhiaaDoorW.PrintWords Go.Proofs.YtjmkhdhffmlhiaaDoorW.PrintMore
def RangeSays (size lo hi : Int) (r : Int × List Int × Int) : Prop :=
  ((size < 0 ∨ 4096 < size) ∧ r = (0, [], 60)) ∨ (0 ≤ size ∧ size ≤ 4096 ∧ ∃ ws, Is size.toNat (fun e => decide (lo ≤ (e : Int)) && decide ((e : Int) < hi)) ws ∧ r = (size, ws, 0))
theorem RangeSays.eq {size lo hi : Int} {r q : Int × List Int × Int} (h : RangeSays size lo hi r) (k : RangeSays size lo hi q) : r = q := by
  rcases h with ⟨h1, rfl⟩ | ⟨h1, h2, ws, h4, rfl⟩ <;> rcases k with ⟨k1, rfl⟩ | ⟨k1, k2, vs, k4, rfl⟩
  · rfl
  · omega
  · omega
  · rw [h4.eq k4 (fun _ _ => rfl)]
def manyb (all : Bool) (l : List S24) (d : Nat) : Bool := if all then l.all (fun x => hb x.f1 d) else l.any (fun x => hb x.f1 d)
def ManySays (n : Int) (l : List S24) (all : Bool) (r : Int × List Int × Int) : Prop :=
  (∃ e, e ≠ 0 ∧ FitSays n l e ∧ r = (0, [], e)) ∨ (FitSays n l 0 ∧ ∃ ws, Is n.toNat (manyb all l) ws ∧ r = (n, ws, 0))
theorem ManySays.eq {n : Int} {l : List S24} {all : Bool} {r q : Int × List Int × Int} (h : ManySays n l all r) (k : ManySays n l all q) : r = q := by
  rcases h with ⟨e, h1, h2, rfl⟩ | ⟨h1, ws, h2, rfl⟩ <;> rcases k with ⟨e2, k1, k2, rfl⟩ | ⟨k1, vs, k2, rfl⟩
  · rw [h2.eq k2]
  · exact absurd (h2.eq k1) h1
  · exact absurd (k2.eq h1) k1
  · rw [h2.eq k2 (fun _ _ => rfl)]
theorem ManySays.bound {n : Int} {l : List S24} {all : Bool} {s : Int} {vs : List Int} {c : Int} (h : ManySays n l all (s, vs, c)) : vs.length ≤ 9223372036854775807 := by
  rcases h with ⟨e, h1, h2, h3⟩ | ⟨h1, ws, h2, h3⟩
  · cases h3; simp
  · cases h3
    rcases h1 with ⟨h1, _⟩ | ⟨h1, _⟩ | ⟨_, _, _, h3, h4⟩
    · omega
    · omega
    · rw [h2.len]; omega
end Go.Proofs.YtjmkhdhffmlhiaaDoor.PAll
end
section
namespace Go.Proofs.YtjmkhdhffmlhiaaDoor.PAll
open Go.RowKit Go.Proofs.YtjmkhdhffmlhiaaDoorW.PrintWords Go.Proofs.YtjmkhdhffmlhiaaDoorW.PrintLast Go.Proofs.YtjmkhdhffmlhiaaDoorW.PrintMore
attribute [local go_sem] max2_int min2_int max_two min_two max_three min_three max_four min_four w64_u8 w64_mod256   -- for this text's walks alone
set_option linter.unusedVariables false
set_option linter.unusedSimpArgs false
mutual
def slopelaw3_chain.j0 : Nat → Int → Int → Bool → Option (Bool)
  | 0, _, _, _ => none
  | k + 1, x0, x1, x27 => if x27 = true then (some true) else (slopelaw3_chain.l0 k x0 x1 ([] : List (S24)) 0)
def slopelaw3_chain.l0 : Nat → Int → Int → List (S24) → Int → Option (Bool)
  | 0, _, _, _, _ => none
  | k + 1, x0, x1, x5, x6 => if x6 < x0 then ((bitset_Range.f k x0 (wrap64 (x6 + 1)) (wrap64 (x6 + 2))).bind fun bt101 => ((slopelaw3_num.f bt101.2.2).bind fun t107 => (if t107 = 0 then (if x5.length < 4398046511104 then (slopelaw3_chain.l0 k x0 x1 (x5 ++ [(⟨bt101.1, bt101.2.1⟩ : S24)]) (wrap64 (x6 + 1))) else (none)) else (some false)))) else ((bitset_Closure.f k x0 x5).bind fun bt111 => ((slopelaw3_num.f bt111.2.2).bind fun t117 => (if t117 = 0 then (slopelaw3_chain.j2 k x0 x1 ((bt111.2.1.length : Int) != x0) bt111.1 bt111.2.1) else (slopelaw3_chain.j2 k x0 x1 true bt111.1 bt111.2.1))))
def slopelaw3_chain.j2 : Nat → Int → Int → Bool → Int → List (S24) → Option (Bool)
  | 0, _, _, _, _, _ => none
  | k + 1, x0, x1, x65, x117000, x117001 => if x65 = true then (some false) else ((bitset_Range.f k x0 (wrap64 (x1 + 1)) x0).bind fun bt118 => ((slopelaw3_num.f bt118.2.2).bind fun t124 => (if t124 = 0 then (if 0 ≤ x1 then (if x1 < (x117001.length : Int) then ((slopelaw3_same.f k ((rd_T24 x117001 x1).f0) ((rd_T24 x117001 x1).f1) bt118.1 bt118.2.1).bind fun t126 => (some t126)) else (none)) else (none)) else (some false))))
end
def slopelaw3_chain.f (k : Nat) (a0 : Int) (a1 : Int) : Option (Bool) := if a0 < 1 then (slopelaw3_chain.j0 k a0 a1 true) else (if a0 > 4096 then (slopelaw3_chain.j0 k a0 a1 true) else (if a1 < 0 then (slopelaw3_chain.j0 k a0 a1 true) else (slopelaw3_chain.j0 k a0 a1 (decide (a1 ≥ a0)))))
end Go.Proofs.YtjmkhdhffmlhiaaDoor.PAll
end
section
namespace Go.Proofs.YtjmkhdhffmlhiaaDoor.PAll
open Go.RowKit Go.Proofs.YtjmkhdhffmlhiaaDoorW.PrintWords Go.Proofs.YtjmkhdhffmlhiaaDoorW.PrintLast Go.Proofs.YtjmkhdhffmlhiaaDoorW.PrintMore
attribute [local go_sem] max2_int min2_int max_two min_two max_three min_three max_four min_four w64_u8 w64_mod256   -- for this text's walks alone
set_option linter.unusedVariables false
set_option linter.unusedSimpArgs false
mutual
def slopelaw3_sameTable.j0 : Nat → Bool → Int → List (S24) → Int → List (S24) → Option (Bool)
  | 0, _, _, _, _, _ => none
  | k + 1, x19, x102000, x102001, x103000, x103001 => if x19 = true then (some false) else (slopelaw3_sameTable.l0 k 0 x102000 x102001 x103000 x103001)
def slopelaw3_sameTable.l0 : Nat → Int → Int → List (S24) → Int → List (S24) → Option (Bool)
  | 0, _, _, _, _, _ => none
  | k + 1, x5, x102000, x102001, x103000, x103001 => if x5 < (x102001.length : Int) then (if 0 ≤ x5 then (if x5 < (x103001.length : Int) then ((slopelaw3_same.f k ((rd_T24 x102001 x5).f0) ((rd_T24 x102001 x5).f1) ((rd_T24 x103001 x5).f0) ((rd_T24 x103001 x5).f1)).bind fun t105 => (if t105 = true then (slopelaw3_sameTable.l0 k (wrap64 (x5 + 1)) x102000 x102001 x103000 x103001) else (some false))) else (none)) else (none)) else (some true)
end
def slopelaw3_sameTable.f (k : Nat) (a0_0 : Int) (l0_1 : List (S24)) (a1_0 : Int) (l1_1 : List (S24)) : Option (Bool) := if a0_0 = a1_0 then (slopelaw3_sameTable.j0 k ((l0_1.length : Int) != (l1_1.length : Int)) a0_0 l0_1 a1_0 l1_1) else (slopelaw3_sameTable.j0 k true a0_0 l0_1 a1_0 l1_1)
end Go.Proofs.YtjmkhdhffmlhiaaDoor.PAll
end
section
namespace Go.Proofs.YtjmkhdhffmlhiaaDoor.PAll
open Go.RowKit Go.Proofs.YtjmkhdhffmlhiaaDoorW.PrintWords Go.Proofs.YtjmkhdhffmlhiaaDoorW.PrintLast Go.Proofs.YtjmkhdhffmlhiaaDoorW.PrintMore
set_option linter.unusedVariables false
mutual
def slopelaw3_BitClosed.j0 : Nat → Int → Int → Int → Bool → Int → List (S24) → Int → List (S24) → Int → List (S24) → Option (Bool)
  | 0, _, _, _, _, _, _, _, _, _, _ => none
  | k + 1, x2, x3, x10, x44, x102000, x102001, x103000, x103001, x110000, x110001 => if x44 = true then ((slopelaw3_num.f x10).bind fun t111 => (some (t111 != 0))) else ((bitset_Product.f k x102000 x102001 x110000 x110001).bind fun bt112 => ((bitset_Product.f k x110000 x110001 x110000 x110001).bind fun bt118 => ((bitset_Closure.f k x110000 x110001).bind fun bt124 => ((slopelaw3_num.f x10).bind fun t130 => ((slopelaw3_num.f bt112.2.2).bind fun t131 => ((slopelaw3_num.f bt118.2.2).bind fun t132 => ((slopelaw3_num.f bt124.2.2).bind fun t133 => (if (wrap64 ((wrap64 ((wrap64 (t130 + t131)) + t132)) + t133)) = 0 then ((slopelaw3_sameTable.f k x110000 x110001 bt124.1 bt124.2.1).bind fun t134 => (if t134 = true then (slopelaw3_BitClosed.j1 k x2 x3 ((x110001.length : Int) != x102000) x102000 x102001 x103000 x103001 x110000 x110001 bt112.1 bt112.2.1 bt118.1 bt118.2.1) else (slopelaw3_BitClosed.j1 k x2 x3 true x102000 x102001 x103000 x103001 x110000 x110001 bt112.1 bt112.2.1 bt118.1 bt118.2.1))) else (slopelaw3_BitClosed.j1 k x2 x3 true x102000 x102001 x103000 x103001 x110000 x110001 bt112.1 bt112.2.1 bt118.1 bt118.2.1)))))))))
def slopelaw3_BitClosed.j1 : Nat → Int → Int → Bool → Int → List (S24) → Int → List (S24) → Int → List (S24) → Int → List (S24) → Int → List (S24) → Option (Bool)
  | 0, _, _, _, _, _, _, _, _, _, _, _, _, _ => none
  | k + 1, x2, x3, x90, x102000, x102001, x103000, x103001, x110000, x110001, x118000, x118001, x124000, x124001 => if x90 = true then (some false) else (slopelaw3_BitClosed.l0 k x2 x3 0 x102000 x102001 x103000 x103001 x110000 x110001 x118000 x118001 x124000 x124001)
def slopelaw3_BitClosed.l0 : Nat → Int → Int → Int → Int → List (S24) → Int → List (S24) → Int → List (S24) → Int → List (S24) → Int → List (S24) → Option (Bool)
  | 0, _, _, _, _, _, _, _, _, _, _, _, _, _ => none
  | k + 1, x2, x3, x17, x102000, x102001, x103000, x103001, x110000, x110001, x118000, x118001, x124000, x124001 => if x17 < x102000 then (if 0 ≤ x17 then (if x17 < (x102001.length : Int) then (if x17 < (x118001.length : Int) then ((bitset_Union.f k x102000 (([(⟨(rd_T24 x102001 x17).f0, (rd_T24 x102001 x17).f1⟩ : S24), (⟨(rd_T24 x118001 x17).f0, (rd_T24 x118001 x17).f1⟩ : S24)] : List (S24)))).bind fun bt140 => ((slopelaw3_num.f bt140.2.2).bind fun t146 => (if t146 = 0 then (if x17 < (x110001.length : Int) then ((slopelaw3_same.f k bt140.1 bt140.2.1 ((rd_T24 x110001 x17).f0) ((rd_T24 x110001 x17).f1)).bind fun t148 => (if t148 = true then (if x17 < (x124001.length : Int) then ((bitset_Subset.f k ((rd_T24 x124001 x17).f0) ((rd_T24 x124001 x17).f1) ((rd_T24 x110001 x17).f0) ((rd_T24 x110001 x17).f1)).bind fun t151 => (if t151 = true then (slopelaw3_BitClosed.l0 k x2 x3 (wrap64 (x17 + 1)) x102000 x102001 x103000 x103001 x110000 x110001 x118000 x118001 x124000 x124001) else (some false))) else (none)) else (some false))) else (none)) else (some false)))) else (none)) else (none)) else (none)) else ((sloperef3_MayTable.f k x103000 x103001).bind fun t152 => (if t152 = true then (if x103000 = x102000 then (slopelaw3_BitClosed.j3 k x2 x3 ((x103001.length : Int) == x102000) x102000 x102001 x103000 x103001 x110000 x110001) else (slopelaw3_BitClosed.j3 k x2 x3 false x102000 x102001 x103000 x103001 x110000 x110001)) else (slopelaw3_BitClosed.j3 k x2 x3 false x102000 x102001 x103000 x103001 x110000 x110001)))
def slopelaw3_BitClosed.j3 : Nat → Int → Int → Bool → Int → List (S24) → Int → List (S24) → Int → List (S24) → Option (Bool)
  | 0, _, _, _, _, _, _, _, _, _ => none
  | k + 1, x2, x3, x157, x102000, x102001, x103000, x103001, x110000, x110001 => if x157 = true then (slopelaw3_BitClosed.l1 k x2 x3 ([] : List (S24)) 0 x102000 x102001 x103000 x103001 x110000 x110001) else ((slopelaw3_chain.f k x2 x3).bind fun t179 => (some t179))
def slopelaw3_BitClosed.l1 : Nat → Int → Int → List (S24) → Int → Int → List (S24) → Int → List (S24) → Int → List (S24) → Option (Bool)
  | 0, _, _, _, _, _, _, _, _, _, _ => none
  | k + 1, x2, x3, x20, x21, x102000, x102001, x103000, x103001, x110000, x110001 => if x21 < x102000 then (if 0 ≤ x21 then (if x21 < (x102001.length : Int) then (if x21 < (x103001.length : Int) then ((bitset_Union.f k x102000 (([(⟨(rd_T24 x102001 x21).f0, (rd_T24 x102001 x21).f1⟩ : S24), (⟨(rd_T24 x103001 x21).f0, (rd_T24 x103001 x21).f1⟩ : S24)] : List (S24)))).bind fun bt158 => ((slopelaw3_num.f bt158.2.2).bind fun t164 => (if t164 = 0 then (if x20.length < 4398046511104 then (slopelaw3_BitClosed.l1 k x2 x3 (x20 ++ [(⟨bt158.1, bt158.2.1⟩ : S24)]) (wrap64 (x21 + 1)) x102000 x102001 x103000 x103001 x110000 x110001) else (none)) else (some false)))) else (none)) else (none)) else (none)) else ((bitset_Closure.f k x102000 x20).bind fun bt168 => ((slopelaw3_num.f bt168.2.2).bind fun t174 => (if t174 = 0 then (slopelaw3_BitClosed.l2 k x2 x3 0 x102000 x102001 x110000 x110001 bt168.1 bt168.2.1) else (some false))))
def slopelaw3_BitClosed.l2 : Nat → Int → Int → Int → Int → List (S24) → Int → List (S24) → Int → List (S24) → Option (Bool)
  | 0, _, _, _, _, _, _, _, _, _ => none
  | k + 1, x2, x3, x26, x102000, x102001, x110000, x110001, x174000, x174001 => if x26 < x102000 then (if 0 ≤ x26 then (if x26 < (x110001.length : Int) then (if x26 < (x174001.length : Int) then ((bitset_Subset.f k ((rd_T24 x110001 x26).f0) ((rd_T24 x110001 x26).f1) ((rd_T24 x174001 x26).f0) ((rd_T24 x174001 x26).f1)).bind fun t177 => (if t177 = true then (slopelaw3_BitClosed.l2 k x2 x3 (wrap64 (x26 + 1)) x102000 x102001 x110000 x110001 x174000 x174001) else (some false))) else (none)) else (none)) else (none)) else ((slopelaw3_chain.f k x2 x3).bind fun t178 => (some t178))
end
def slopelaw3_BitClosed.f (k : Nat) (a0_0 : Int) (l0_1 : List (S24)) (a1_0 : Int) (l1_1 : List (S24)) (a2 : Int) (a3 : Int) : Option (Bool) := (slopelaw3_alive.f k).bind fun t103 => (if t103 = true then ((bitset_Closure.f k a0_0 l0_1).bind fun bt104 => ((sloperef3_MayTable.f k a0_0 l0_1).bind fun t110 => (if t110 = true then (slopelaw3_BitClosed.j0 k a2 a3 bt104.2.2 (a0_0 != (l0_1.length : Int)) a0_0 l0_1 a1_0 l1_1 bt104.1 bt104.2.1) else (slopelaw3_BitClosed.j0 k a2 a3 bt104.2.2 true a0_0 l0_1 a1_0 l1_1 bt104.1 bt104.2.1)))) else (some false))
end Go.Proofs.YtjmkhdhffmlhiaaDoor.PAll
end
section
namespace Go.Proofs.YtjmkhdhffmlhiaaDoor.PAll
set_option linter.unusedVariables false
set_option linter.unusedSimpArgs false
open Go.RowKit Go.Shelf Go.Proofs.YtjmkhdhffmlhiaaDoorW.PrintWords Go.Proofs.YtjmkhdhffmlhiaaDoorW.PrintLast Go.Proofs.YtjmkhdhffmlhiaaDoorW.PrintMore
attribute [local go_sem] Oper.semAt_some
end Go.Proofs.YtjmkhdhffmlhiaaDoor.PAll
end
section
namespace Go.Proofs.YtjmkhdhffmlhiaaDoor.PAll
open Go.RowKit Go.Proofs.YtjmkhdhffmlhiaaDoorW.PrintWords Go.Proofs.YtjmkhdhffmlhiaaDoorW.PrintLast Go.Proofs.YtjmkhdhffmlhiaaDoorW.PrintMore
attribute [local go_sem] max2_int min2_int max_two min_two max_three min_three max_four min_four w64_u8 w64_mod256   -- for this text's walks alone
set_option linter.unusedVariables false
set_option linter.unusedSimpArgs false
end Go.Proofs.YtjmkhdhffmlhiaaDoor.PAll
end
section
namespace Go.Proofs.YtjmkhdhffmlhiaaDoor.PAll
set_option linter.unusedVariables false
open Go.RowKit Go.Proofs.YtjmkhdhffmlhiaaDoorW.PrintWords Go.Proofs.YtjmkhdhffmlhiaaDoorW.PrintMore
theorem sameTable_l0 (n : Int) (l : List S24) (hl : l.length ≤ 9223372036854775806) (hg : ∀ s ∈ l, s.f1.length ≤ 9223372036854775807) : ∀ d i : Nat, i + d = l.length → Ev (fun k => slopelaw3_sameTable.l0 k (i : Int) n l n l) true
  | 0, i, h => ⟨1, fun k hk => by
    obtain ⟨k, rfl⟩ : ∃ j, k = j + 1 := ⟨k - 1, by omega⟩
    show slopelaw3_sameTable.l0 (k + 1) (i : Int) n l n l = _
    rw [slopelaw3_sameTable.l0, if_neg (by omega)]⟩
  | d + 1, i, h => by
    obtain ⟨K1, h1⟩ := sameTable_l0 n l hl hg d (i + 1) (by omega)
    have hi : i < l.length := by omega
    obtain ⟨K2, h2⟩ := same_ev (rd_T24 l (i : Int)).f0 (rd_T24 l (i : Int)).f1 (by rw [rdT_nat l hi]; exact hg _ (List.getElem_mem hi))
    refine ⟨K1 + K2 + 1, fun k hk => ?_⟩
    obtain ⟨k, rfl⟩ : ∃ j, k = j + 1 := ⟨k - 1, by omega⟩
    have h3 := h1 k (by omega)
    have h4 := h2 k (by omega)
    simp only at h3 h4
    show slopelaw3_sameTable.l0 (k + 1) (i : Int) n l n l = _
    rw [slopelaw3_sameTable.l0, if_pos (by omega), if_pos (by omega), if_pos (by omega), h4, Option.bind_some, if_pos rfl, show wrap64 ((i : Int) + 1) = ((i + 1 : Nat) : Int) from by rw [w64_nat (by omega) (by omega)]; omega]
    exact h3
theorem sameTable_ev (n : Int) (l : List S24) (hl : l.length ≤ 9223372036854775806) (hg : ∀ s ∈ l, s.f1.length ≤ 9223372036854775807) : Ev (fun k => slopelaw3_sameTable.f k n l n l) true := by
  obtain ⟨K, h⟩ := sameTable_l0 n l hl hg l.length 0 (by omega)
  refine ⟨K + 1, fun k hk => ?_⟩
  obtain ⟨k, rfl⟩ : ∃ j, k = j + 1 := ⟨k - 1, by omega⟩
  have h3 := h k (by omega)
  simp only at h3
  show slopelaw3_sameTable.f (k + 1) n l n l = _
  unfold slopelaw3_sameTable.f
  rw [if_pos rfl, bne_self_eq_false, slopelaw3_sameTable.j0, if_neg (by decide)]
  exact h3
theorem RowsAre.same {n m : Nat} (hn : n ≤ 4096) (hm : m ≤ 4096) {p : Nat → Nat → Bool} {l : List S24} (h : RowsAre n m p l) (x : Int) : Ev (fun k => slopelaw3_sameTable.f k x l x l) true :=
  sameTable_ev x l (by rw [h.1]; omega) (fun s hs => ((h.tab hn hm).2 s hs).2)
end Go.Proofs.YtjmkhdhffmlhiaaDoor.PAll
end
section
namespace Go.Proofs.YtjmkhdhffmlhiaaDoor.PAll
set_option linter.unusedVariables false
set_option linter.unusedSimpArgs false
open Go.RowKit Go.Proofs.YtjmkhdhffmlhiaaDoorW.PrintWords Go.Proofs.YtjmkhdhffmlhiaaDoorW.PrintMore
theorem RowsAre.row {n m : Nat} {p : Nat → Nat → Bool} {rows : List S24} (h : RowsAre n m p rows) {i : Nat} (hi : i < n) : (rd_T24 rows (i : Int)).f0 = (m : Int) ∧ Is m (p i) (rd_T24 rows (i : Int)).f1 := by
  have hil : i < rows.length := by rw [h.1]; exact hi
  rw [rdT_nat rows hil]
  exact h.2 i hil
theorem RowsAre.snoc {i m : Nat} {p : Nat → Nat → Bool} {acc : List S24} (h : RowsAre i m p acc) {ws : List Int} (hw : Is m (p i) ws) : RowsAre (i + 1) m p (acc ++ [⟨(m : Int), ws⟩]) := by
  refine ⟨by simp [h.1], fun x hx => ?_⟩
  by_cases hxi : x < acc.length
  · rw [List.getElem_append_left hxi]; exact h.2 x hxi
  · obtain rfl : x = acc.length := by simp at hx; omega
    simp only [List.getElem_concat_length]
    rw [h.1]
    exact ⟨trivial, hw⟩
def next (x y : Nat) : Bool := decide (y = x + 1)
theorem w1 {i n : Nat} (hn : n ≤ 4096) (hi : i < n) : wrap64 ((i : Int) + 1) = ((i + 1 : Nat) : Int) := by rw [w64_nat (by omega) (by omega)]; omega
end Go.Proofs.YtjmkhdhffmlhiaaDoor.PAll
end
section
namespace Go.Proofs.YtjmkhdhffmlhiaaDoor.PAll
open Go.RowKit Go.Proofs.YtjmkhdhffmlhiaaDoorW.PrintWords Go.Proofs.YtjmkhdhffmlhiaaDoorW.PrintLast Go.Proofs.YtjmkhdhffmlhiaaDoorW.PrintMore
attribute [local go_sem] max2_int min2_int max_two min_two max_three min_three max_four min_four w64_u8 w64_mod256   -- for this text's walks alone
set_option linter.unusedVariables false
set_option linter.unusedSimpArgs false
end Go.Proofs.YtjmkhdhffmlhiaaDoor.PAll
end
section
namespace Go.Proofs.YtjmkhdhffmlhiaaDoor.PAll
open Go.RowKit Go.Proofs.YtjmkhdhffmlhiaaDoorW.PrintWords Go.Proofs.YtjmkhdhffmlhiaaDoorW.PrintLast Go.Proofs.YtjmkhdhffmlhiaaDoorW.PrintMore
attribute [local go_sem] max2_int min2_int max_two min_two max_three min_three max_four min_four w64_u8 w64_mod256   -- for this text's walks alone
set_option linter.unusedVariables false
set_option linter.unusedSimpArgs false
end Go.Proofs.YtjmkhdhffmlhiaaDoor.PAll
end
section
namespace Go.Proofs.YtjmkhdhffmlhiaaDoor.PAll
open Go.RowKit Go.Proofs.YtjmkhdhffmlhiaaDoorW.PrintWords Go.Proofs.YtjmkhdhffmlhiaaDoorW.PrintLast Go.Proofs.YtjmkhdhffmlhiaaDoorW.PrintMore
attribute [local go_sem] max2_int min2_int max_two min_two max_three min_three max_four min_four w64_u8 w64_mod256   -- for this text's walks alone
set_option linter.unusedVariables false
set_option linter.unusedSimpArgs false
end Go.Proofs.YtjmkhdhffmlhiaaDoor.PAll
end
section
namespace Go.Proofs.YtjmkhdhffmlhiaaDoor.PAll
open Go.RowKit Go.Proofs.YtjmkhdhffmlhiaaDoorW.PrintWords Go.Proofs.YtjmkhdhffmlhiaaDoorW.PrintLast Go.Proofs.YtjmkhdhffmlhiaaDoorW.PrintMore
attribute [local go_sem] max2_int min2_int max_two min_two max_three min_three max_four min_four w64_u8 w64_mod256   -- for this text's walks alone
set_option linter.unusedVariables false
set_option linter.unusedSimpArgs false
end Go.Proofs.YtjmkhdhffmlhiaaDoor.PAll
end
section
namespace Go.Proofs.YtjmkhdhffmlhiaaDoor.PAll
open Go.RowKit Go.Proofs.YtjmkhdhffmlhiaaDoorW.PrintWords Go.Proofs.YtjmkhdhffmlhiaaDoorW.PrintLast Go.Proofs.YtjmkhdhffmlhiaaDoorW.PrintMore
attribute [local go_sem] max2_int min2_int max_two min_two max_three min_three max_four min_four w64_u8 w64_mod256   -- for this text's walks alone
set_option linter.unusedVariables false
set_option linter.unusedSimpArgs false
end Go.Proofs.YtjmkhdhffmlhiaaDoor.PAll
end
section
namespace Go.Proofs.YtjmkhdhffmlhiaaDoor.PAll
set_option linter.unusedVariables false
set_option linter.unusedSimpArgs false
open Go.RowKit Go.Proofs.YtjmkhdhffmlhiaaDoorW.PrintWords Go.Proofs.YtjmkhdhffmlhiaaDoorW.PrintMore
theorem wi {i n : Nat} (hn : n ≤ 4096) (hi : i < n) : wrap64 ((i : Int) + 1) = ((i + 1 : Nat) : Int) := by rw [w64_nat (by omega) (by omega)]; omega
def free (g : Nat → Bool) : Nat → Nat
  | 0 => 0
  | n + 1 => free g n + (bif g n then 0 else 1)
def Inv (n : Nat) (p : Nat → Nat → Bool) (i : Nat) (f g : Nat → Bool) : Prop := (∀ y, y < n → p i y = true → f y = true) ∧ (∀ e y, e < n → y < n → g e = true → p e y = true → f y = true) ∧ ∀ y, y < n → f y = true → way p n i y = true
end Go.Proofs.YtjmkhdhffmlhiaaDoor.PAll
end
section
namespace Go.Proofs.YtjmkhdhffmlhiaaDoor.PAll
set_option linter.unusedVariables false
set_option linter.unusedSimpArgs false
open Go.RowKit Go.Shelf Go.Proofs.YtjmkhdhffmlhiaaDoorW.PrintWords
abbrev BT : TypeId := 114
abbrev U8 : TypeId := 5
theorem sizeBuilder : (Tryd.prog.info? BT).map (·.size) = some 2 := by kernel_rfl
theorem liesBuilder : liesAt Tryd.prog Tryd.prog.depth BT (2 / Tryd.prog.cellsOf BT) 0 BT 1 = true := by kernel_rfl
theorem infoByte : (Tryd.prog.info? U8).map (fun i => (i.zero, i.size, i.bytes)) = some (some (.int .u8 0), 1, 1) := by kernel_rfl
theorem tPtr : Tryd.prog.underlying 111 = some (.pointer BT) := by kernel_rfl
theorem tUns : Tryd.prog.underlying 147 = some .unsafePointer := by kernel_rfl
theorem tRow : Tryd.prog.underlying 112 = some (.slice U8) := by kernel_rfl
theorem fNoEscape : Tryd.prog.funcs[127]? = some Tryd.f127 := Tryd.func127
set_option maxHeartbeats 1000000 in
set_option maxRecDepth 100000 in
theorem copyCheck_used (b : Nat) (w : World) (h0 : w.cell? ⟨b, 0, none⟩ = some (.pointer (some ⟨b, 0, none⟩))) :
    Calls Tryd.prog 121 #[.pointer (some ⟨b, 0, none⟩)] w fun e w' => e = .returned (.tuple #[]) ∧ w' = w := by
  obtain ⟨j, hj, _⟩ := Option.map_eq_some_iff.1 sizeBuilder
  have h1 := tPtr
  go_enter Tryd.func121, Tryd.ntmps121
  go_wp2
  rw [Lib.run_neq_ptr_same w _ tPtr hj]
  go_wp2
  go_end0
  exact ⟨rfl, rfl⟩
set_option maxHeartbeats 1000000 in
set_option maxRecDepth 100000 in
theorem copyCheck_fresh (b : Nat) (w : World) (h0 : w.cell? ⟨b, 0, none⟩ = some (.pointer none)) (hsh : w.shape? b = some (BT, 2)) (hfz : w.frozen? ⟨b, 0, none⟩ = false) :
    Calls Tryd.prog 121 #[.pointer (some ⟨b, 0, none⟩)] w fun e w' => e = .returned (.tuple #[]) ∧ w' = w.setCell ⟨b, 0, none⟩ (.pointer (some ⟨b, 0, none⟩)) := by
  obtain ⟨j, hj, hjs⟩ := Option.map_eq_some_iff.1 sizeBuilder
  have h1 := tPtr
  have h2 := tUns
  go_enter Tryd.func121, Tryd.ntmps121
  go_wp2
  rw [Lib.run_to_unsafe w ⟨b, 0, none⟩ tPtr tUns hj (by rw [hjs]; decide) hsh (Nat.zero_lt_succ 1)]
  simp only [Result.andThen]
  rw [Oper.upon_value]
  go_wp2
  rw [run_callFunc_extern fNoEscape (by kernel_rfl) (by kernel_rfl) (by kernel_rfl) (e := Extern.AbiNoEscape.same) (by kernel_rfl)]
  rw [Lib.run_noEscape]
  simp only [Result.andThen]
  rw [Oper.upon_value]
  go_wp2
  rw [Lib.run_from_unsafe w ⟨b, 0, none⟩ tUns tPtr hj hsh liesBuilder]
  simp only [Result.andThen]
  rw [Oper.upon_value]
  go_wp2
  go_end0
  exact ⟨rfl, rfl⟩
theorem copyCheck (B b : Nat) (bs : List Value) (w : World) (h : Lib.IsBuilder BT U8 B b bs w) :
    Calls Tryd.prog 121 #[.pointer (some ⟨b, 0, none⟩)] w fun e w' => e = .returned (.tuple #[]) ∧ (Lib.BuilderAt BT U8 B b (.pointer (some ⟨b, 0, none⟩)) bs w' ∧ Below B w w') := by
  rcases h with h | h
  · refine (copyCheck_fresh b w h.cell0 h.shape h.frozen0).mono ?_
    rintro e w' ⟨rfl, rfl⟩
    exact ⟨rfl, h.used _, (Below.refl B w).setCell (p := ⟨b, 0, none⟩) h.1 _⟩
  · refine (copyCheck_used b w h.cell0).mono ?_
    rintro e w' ⟨rfl, rfl⟩
    exact ⟨rfl, h, Below.refl B _⟩
set_option maxHeartbeats 1000000 in
set_option maxRecDepth 100000 in
theorem writeByte (B b : Nat) (bs : List Value) (c : Int) (w : World) (h : Lib.IsBuilder BT U8 B b bs w) (hlen : bs.length + 1 ≤ 140737488355328) (hBw : B ≤ w.heap.size) :
    Calls Tryd.prog 102 #[.pointer (some ⟨b, 0, none⟩), .int .u8 c] w fun e w' => e = .returned .nilIface ∧ (Lib.BuilderAt BT U8 B b (.pointer (some ⟨b, 0, none⟩)) (bs ++ [.int .u8 c]) w' ∧ Below B w w') := by
  obtain ⟨i0, hi, hz0, hz1, hz2⟩ := info_parts infoByte
  have t1 := tPtr
  have t2 := tRow
  go_enter Tryd.func102, Tryd.ntmps102
  go_wp2_with (go_at_call 121; refine (copyCheck B b bs _ h).mono ?_)
  rintro e w1 ⟨rfl, h1, hb1⟩
  obtain ⟨hB, v, hbk, hown, hne⟩ := h1
  have c0 : w1.cell? ⟨b, 0, none⟩ = some (.pointer (some ⟨b, 0, none⟩)) := by rw [Lib.cell_of_heap hbk]; rfl
  have c1 : w1.cell? ⟨b, 1, none⟩ = some v := by rw [Lib.cell_of_heap hbk]; rfl
  go_wp2_with (at_builtin; refine wpList_append_own _ rfl _ _ 112 rfl B U8 i0 (.int .u8 0) 1 1 tRow hi hz0 hz1 hz2 rfl (by decide) _ _ _ rfl (hown.alloc _) ⟨w1.heap.size, 0, none⟩ 1 1 [.int .u8 c] rfl rfl ?c1 ?c2 ?c3 ?c4 ?c5 ?_)
  case c1 =>
    intro j u hj
    match j, hj with
    | 0, hj => simp at hj; subst hj; simp [Addr.add]
  case c2 => intro u hu; simp at hu; subst hu; rfl
  case c3 => unfold maxLen; omega
  case c4 => omega
  case c5 => have := hb1.size; simp; omega
  intro v' w2 hown' hgrow _
  have hlt : b < w1.heap.size := by
    rcases Nat.lt_or_ge b w1.heap.size with h' | h'
    · exact h'
    · simp [Array.getElem?_eq_none h'] at hbk
  have hb2 : w2.heap[b]? = some (.cells #[.pointer (some ⟨b, 0, none⟩), v] BT (0, 0)) := by
    rw [hgrow.block b (by simp; omega) (fun e => hne e.symm), Lib.alloc_old w1 _ b hlt]
    exact hbk
  have d0 : w2.cell? ⟨b, 0, none⟩ = some (.pointer (some ⟨b, 0, none⟩)) := by rw [Lib.cell_of_heap hb2]; rfl
  have d1 : w2.cell? ⟨b, 1, none⟩ = some v := by rw [Lib.cell_of_heap hb2]; rfl
  have f1 : w2.frozen? ⟨b, 1, none⟩ = false := Lib.frozen_of_heap hb2 1
  obtain ⟨g, cap, rfl⟩ : ∃ g cap, v' = .slice (some ⟨g, 0, none⟩) (bs.length + 1) cap := by
    rcases hown'.2 with ⟨_, h0⟩ | ⟨g, cap, cur, hv, _⟩
    · omega
    · exact ⟨g, cap, hv⟩
  go_wp2
  go_ret
  refine ⟨rfl, ?_, ?_⟩
  · exact Lib.BuilderAt.put (T := BT) (e := U8) hB hb2 (bs' := bs ++ [.int .u8 c]) (by simpa using hown') (by decide)
  · exact ((hb1.alloc (by have := hb1.size; omega) _).grown hgrow (by have := hb1.size; simp; omega) (fun k hk => (hown.lt k hk).1)).setCell (p := ⟨b, 1, none⟩) hB _
end Go.Proofs.YtjmkhdhffmlhiaaDoor.PAll
end
section
namespace Go.Proofs.YtjmkhdhffmlhiaaDoor.PAll
set_option linter.unusedVariables false
set_option linter.unusedSimpArgs false
open Go.RowKit Go.Shelf Go.Proofs.YtjmkhdhffmlhiaaDoorW.PrintWords Go.Proofs.YtjmkhdhffmlhiaaDoorW.PrintMore
def l169_ren : Go.Shelf.Ren := ⟨fun | 169 => 103 | n => n, fun | 70 => 111 | 9 => 9 | 0 => 0 | 72 => 114 | 37 => 112 | 127 => 143 | 3 => 3 | 5 => 5 | n => n, fun | n => n⟩
theorem l169 : Go.Proofs.Lays.n169 Tryd.prog l169_ren := {
  mixed := by kernel_rfl
  f169 := Tryd.func103.trans (congrArg some (by kernel_rfl))
  t0 := Tryd.underlying0
  a0 := Tryd.isAgg0
  z0 := Tryd.sizeOf0
  v0 := Tryd.zeroValue0
  t3 := Tryd.underlying3
  a3 := Tryd.isAgg3
  z3 := Tryd.sizeOf3
  v3 := Tryd.zeroValue3
  t9 := Tryd.underlying9
  a9 := Tryd.isAgg9
  z9 := Tryd.sizeOf9
  v9 := Tryd.zeroValue9
  t37 := Tryd.underlying112
  a37 := Tryd.isAgg112
  z37 := Tryd.sizeOf112
  v37 := Tryd.zeroValue112
  t70 := Tryd.underlying111
  a70 := Tryd.isAgg111
  z70 := Tryd.sizeOf111
  v70 := Tryd.zeroValue111
  t72 := Tryd.underlying114
  a72 := Tryd.isAgg114
  z72 := Tryd.sizeOf114
  v72 := Tryd.zeroValue114
  t127 := Tryd.underlying143
  a127 := Tryd.isAgg143
  z127 := Tryd.sizeOf143
  v127 := Tryd.zeroValue143 }
theorem e169 : Builder.Extra Tryd.prog l169_ren := {
  sizeBuilder := by kernel_rfl
  liesBuilder := by kernel_rfl
  t5 := Tryd.underlying5
  a5 := Tryd.isAgg5
  z5 := Tryd.sizeOf5
  v5 := Tryd.zeroValue5
  infoByte := by kernel_rfl
  cellsByte := by kernel_rfl
  sizeByte := by kernel_rfl
  neB5 := by decide }
theorem builderString (B b : Nat) (l : List UInt8) (w : World) (h : Lib.IsBuilder BT U8 B b (Lib.byteCells l) w) (hBw : B ≤ w.heap.size) :
    Calls Tryd.prog 103 #[.pointer (some ⟨b, 0, none⟩)] w fun e w' => e = .returned (.string ⟨l.toArray⟩) ∧ Below B w w' :=
  Any.Builder_String_any l169 e169 B b l w h hBw
theorem below_more {B : Nat} {w W W' : World} (h : Below w.heap.size w W) (h1 : Below B W W') (hB : w.heap.size ≤ B) : Below w.heap.size w W' := h.trans (h1.mono hB)
end Go.Proofs.YtjmkhdhffmlhiaaDoor.PAll
end
section
namespace Go.Proofs.YtjmkhdhffmlhiaaDoor.PAll
open Go.Shelf
def laysM171_ren : Go.Shelf.Ren := ⟨fun | 171 => 101 | 243 => 122 | 246 => 128 | 283 => 129 | 284 => 130 | 285 => 131 | 286 => 132 | 129 => 119 | 317 => 133 | 318 => 134 | 319 => 135 | 320 => 136 | 337 => 137 | 338 => 80 | n => n, fun | 3 => 3 | 9 => 9 | 2 => 2 | 4 => 4 | 171 => 150 | 0 => 0 | 53 => 87 | 37 => 112 | 5 => 5 | 173 => 152 | 212 => 155 | 51 => 156 | 20 => 20 | 213 => 157 | 46 => 140 | 232 => 160 | 233 => 141 | n => n, fun | 17 => 1 | 18 => 2 | 19 => 0 | n => n⟩
theorem laysM171 : Go.Proofs.LaysM.n171 Tryd.prog laysM171_ren := {
  mixed := by kernel_rfl
  f129 := Tryd.func119.trans (congrArg some (by kernel_rfl))
  f171 := Tryd.func101.trans (congrArg some (by kernel_rfl))
  f243 := Tryd.func122.trans (congrArg some (by kernel_rfl))
  f246 := Tryd.func128.trans (congrArg some (by kernel_rfl))
  f283 := Tryd.func129.trans (congrArg some (by kernel_rfl))
  f284 := Tryd.func130.trans (congrArg some (by kernel_rfl))
  f285 := Tryd.func131.trans (congrArg some (by kernel_rfl))
  f286 := Tryd.func132.trans (congrArg some (by kernel_rfl))
  f317 := Tryd.func133.trans (congrArg some (by kernel_rfl))
  f318 := Tryd.func134.trans (congrArg some (by kernel_rfl))
  f319 := Tryd.func135.trans (congrArg some (by kernel_rfl))
  f320 := Tryd.func136.trans (congrArg some (by kernel_rfl))
  f337 := Tryd.func137.trans (congrArg some (by kernel_rfl))
  f338 := Tryd.func80.trans (congrArg some (by kernel_rfl))
  t0 := Tryd.underlying0
  a0 := Tryd.isAgg0
  z0 := Tryd.sizeOf0
  v0 := Tryd.zeroValue0
  t2 := Tryd.underlying2
  a2 := Tryd.isAgg2
  z2 := Tryd.sizeOf2
  v2 := Tryd.zeroValue2
  t3 := Tryd.underlying3
  a3 := Tryd.isAgg3
  z3 := Tryd.sizeOf3
  v3 := Tryd.zeroValue3
  t4 := Tryd.underlying4
  a4 := Tryd.isAgg4
  z4 := Tryd.sizeOf4
  v4 := Tryd.zeroValue4
  t5 := Tryd.underlying5
  a5 := Tryd.isAgg5
  z5 := Tryd.sizeOf5
  v5 := Tryd.zeroValue5
  t9 := Tryd.underlying9
  a9 := Tryd.isAgg9
  z9 := Tryd.sizeOf9
  v9 := Tryd.zeroValue9
  t20 := Tryd.underlying20
  a20 := Tryd.isAgg20
  z20 := Tryd.sizeOf20
  v20 := Tryd.zeroValue20
  t37 := Tryd.underlying112
  a37 := Tryd.isAgg112
  z37 := Tryd.sizeOf112
  v37 := Tryd.zeroValue112
  t46 := Tryd.underlying140
  a46 := Tryd.isAgg140
  z46 := Tryd.sizeOf140
  v46 := Tryd.zeroValue140
  t51 := Tryd.underlying156
  a51 := Tryd.isAgg156
  z51 := Tryd.sizeOf156
  v51 := Tryd.zeroValue156
  t53 := Tryd.underlying87
  a53 := Tryd.isAgg87
  z53 := Tryd.sizeOf87
  v53 := Tryd.zeroValue87
  t171 := Tryd.underlying150
  a171 := Tryd.isAgg150
  z171 := Tryd.sizeOf150
  v171 := Tryd.zeroValue150
  t173 := Tryd.underlying152
  a173 := Tryd.isAgg152
  z173 := Tryd.sizeOf152
  v173 := Tryd.zeroValue152
  t212 := Tryd.underlying155
  a212 := Tryd.isAgg155
  z212 := Tryd.sizeOf155
  v212 := Tryd.zeroValue155
  t213 := Tryd.underlying157
  a213 := Tryd.isAgg157
  z213 := Tryd.sizeOf157
  t232 := Tryd.underlying160
  a232 := Tryd.isAgg160
  z232 := Tryd.sizeOf160
  v232 := Tryd.zeroValue160
  t233 := Tryd.underlying141
  a233 := Tryd.isAgg141
  z233 := Tryd.sizeOf141
  v233 := Tryd.zeroValue141
  g17 := by kernel_rfl
  g18 := by kernel_rfl
  g19 := by kernel_rfl
  i0 := by kernel_rfl
  i2 := by kernel_rfl
  i3 := by kernel_rfl
  i4 := by kernel_rfl
  i5 := by kernel_rfl
  i9 := by kernel_rfl
  i20 := by kernel_rfl
  i37 := by kernel_rfl
  i46 := by kernel_rfl
  i51 := by kernel_rfl
  i53 := by kernel_rfl
  i171 := by kernel_rfl
  i173 := by kernel_rfl
  i212 := by kernel_rfl
  i232 := by kernel_rfl
  i233 := by kernel_rfl
  m17 := by kernel_rfl
  m18 := by kernel_rfl
  m19 := by kernel_rfl }
open Go.RowKit Go.Sort Go.Lib in
theorem strconvItoa (n : Int) (h0 : -9223372036854775808 ≤ n) (h1 : n ≤ 9223372036854775807) (w : World) (htab : Lib.TabIs Tryd.prog w "internal/strconv.uint64pow10" .u64 Lib.pow10Tab) :
    Calls Tryd.prog 101 #[.int .i64 n] w fun e w' => e = .returned (.string ⟨(Lib.itoa n).toArray⟩) ∧ ∃ k os, w' = grow (w.drewN k) os := Any.strconv_Itoa laysM171 n h0 h1 w htab
end Go.Proofs.YtjmkhdhffmlhiaaDoor.PAll
end
section
namespace Go.Proofs.YtjmkhdhffmlhiaaDoor.PAll
set_option linter.unusedVariables false
set_option linter.unusedSimpArgs false
open Go.RowKit Go.Shelf Go.Proofs.YtjmkhdhffmlhiaaDoorW.PrintWords
theorem tStr : Tryd.prog.underlying 9 = some .string := by kernel_rfl
set_option maxHeartbeats 1000000 in
set_option maxRecDepth 100000 in
theorem writeString (B b : Nat) (bs : List Value) (s : ByteArray) (w : World) (h : Lib.IsBuilder BT U8 B b bs w) (hlen : bs.length + s.size ≤ 140737488355328) (hBw : B ≤ w.heap.size) :
    Calls Tryd.prog 100 #[.pointer (some ⟨b, 0, none⟩), .string s] w fun e w' => e = .returned (.tuple #[.int .i64 s.size, .nilIface]) ∧ (Lib.BuilderAt BT U8 B b (.pointer (some ⟨b, 0, none⟩)) (bs ++ Lib.strCells s) w' ∧ Below B w w') := by
  obtain ⟨i0, hi, hz0, hz1, hz2⟩ := info_parts infoByte
  have t1 := tPtr
  have t2 := tRow
  have t3 := tStr
  go_enter Tryd.func100, Tryd.ntmps100
  go_wp2_with (go_at_call 121; refine (copyCheck B b bs _ h).mono ?_)
  rintro e w1 ⟨rfl, h1, hb1⟩
  obtain ⟨hB, v, hbk, hown, hne⟩ := h1
  have c0 : w1.cell? ⟨b, 0, none⟩ = some (.pointer (some ⟨b, 0, none⟩)) := by rw [Lib.cell_of_heap hbk]; rfl
  have c1 : w1.cell? ⟨b, 1, none⟩ = some v := by rw [Lib.cell_of_heap hbk]; rfl
  go_wp2_with (at_builtin; refine Lib.wpList_append_own_string _ rfl _ _ 112 9 rfl B U8 i0 tRow tStr hi hz0 hz1 hz2 _ _ _ rfl hown s rfl ?c3 ?c4 ?c5 ?_)
  case c3 => unfold maxLen; omega
  case c4 => omega
  case c5 => have := hb1.size; omega
  intro v' w2 hown' hgrow _
  have hlt : b < w1.heap.size := by
    rcases Nat.lt_or_ge b w1.heap.size with h' | h'
    · exact h'
    · simp [Array.getElem?_eq_none h'] at hbk
  have hb2 : w2.heap[b]? = some (.cells #[.pointer (some ⟨b, 0, none⟩), v] BT (0, 0)) := by
    rw [hgrow.block b hlt (fun e => hne e.symm)]
    exact hbk
  have d0 : w2.cell? ⟨b, 0, none⟩ = some (.pointer (some ⟨b, 0, none⟩)) := by rw [Lib.cell_of_heap hb2]; rfl
  have d1 : w2.cell? ⟨b, 1, none⟩ = some v := by rw [Lib.cell_of_heap hb2]; rfl
  have f1 : w2.frozen? ⟨b, 1, none⟩ = false := Lib.frozen_of_heap hb2 1
  obtain ⟨ao, n', cap, rfl⟩ : ∃ ao n' cap, v' = .slice ao n' cap := by
    rcases hown'.2 with ⟨hv, _⟩ | ⟨g, cap, cur, hv, _⟩
    · exact ⟨_, _, _, hv⟩
    · exact ⟨_, _, _, hv⟩
  go_wp2
  go_ret2
  refine ⟨rfl, ?_, ?_⟩
  · exact Lib.BuilderAt.put (T := BT) (e := U8) hB hb2 (bs' := bs ++ Lib.strCells s) (by simpa [Lib.strCells_length] using hown') (by decide)
  · exact (hb1.grown hgrow (by have := hb1.size; omega) (fun k hk => (hown.lt k hk).1)).setCell (p := ⟨b, 1, none⟩) hB _
def Pw (w : World) : Prop := Lib.TabIs Tryd.prog w "internal/strconv.uint64pow10" .u64 Lib.pow10Tab
theorem pw_at {w W : World} (h : Pw w) (hb : Below w.heap.size w W) : Pw W := by
  unfold Pw Lib.TabIs World.var? at *
  cases hg : Tryd.prog.globalNamed "internal/strconv.uint64pow10" with
  | none => simp [hg] at h
  | some g =>
    simp only [hg, Option.bind_some] at h ⊢
    have hlt : g < w.heap.size := by
      rcases Nat.lt_or_ge g w.heap.size with h' | h'
      · exact h'
      · rw [Array.getElem?_eq_none h'] at h; simp at h
    rw [hb.block g hlt]
    exact h
theorem itoa_calls (n : Nat) (hn : n ≤ 1000000) (w : World) (hP : Pw w) : Calls Tryd.prog 101 #[.int .i64 (n : Nat)] w fun e w' => e = .returned (.string ⟨(Lib.decDigits n).toArray⟩) ∧ Below w.heap.size w w' := by
  refine (strconvItoa (n : Nat) (by omega) (by omega) w hP).mono ?_
  rintro e w' ⟨rfl, k, os, rfl⟩
  refine ⟨?_, Lib.below_grow _ w (Nat.le_refl _) k os⟩
  unfold Lib.itoa
  rw [if_neg (by omega), Int.toNat_natCast]
end Go.Proofs.YtjmkhdhffmlhiaaDoor.PAll
end
section
namespace Go.Proofs.YtjmkhdhffmlhiaaDoor.PAll
open Go.RowKit Go.Proofs.YtjmkhdhffmlhiaaDoorW.PrintWords Go.Proofs.YtjmkhdhffmlhiaaDoorW.PrintLast Go.Proofs.YtjmkhdhffmlhiaaDoorW.PrintMore
attribute [local go_sem] max2_int min2_int max_two min_two max_three min_three max_four min_four w64_u8 w64_mod256   -- for this text's walks alone
set_option linter.unusedVariables false
set_option linter.unusedSimpArgs false
end Go.Proofs.YtjmkhdhffmlhiaaDoor.PAll
end
section
namespace Go.Proofs.YtjmkhdhffmlhiaaDoor.PAll
open Go.RowKit Go.Proofs.YtjmkhdhffmlhiaaDoorW.PrintWords Go.Proofs.YtjmkhdhffmlhiaaDoorW.PrintLast Go.Proofs.YtjmkhdhffmlhiaaDoorW.PrintMore
attribute [local go_sem] max2_int min2_int max_two min_two max_three min_three max_four min_four w64_u8 w64_mod256   -- for this text's walks alone
set_option linter.unusedVariables false
set_option linter.unusedSimpArgs false
end Go.Proofs.YtjmkhdhffmlhiaaDoor.PAll
end
section
namespace Go.Proofs.YtjmkhdhffmlhiaaDoor.PAll
set_option linter.unusedVariables false
set_option linter.unusedSimpArgs false
open Go.RowKit Go.Proofs.YtjmkhdhffmlhiaaDoorW.PrintWords Go.Proofs.YtjmkhdhffmlhiaaDoorW.PrintMore
def dd (e : Nat) : List UInt8 := Lib.decDigits e
def pbeg (p : Nat → Bool) (e : Nat) : Bool := p e && (e == 0 || !p (e - 1))
def pend (p : Nat → Bool) (n e : Nat) : Bool := p e && (e + 1 == n || !p (e + 1))
def refT (p : Nat → Bool) (n : Nat) : Nat → Nat → Bool → List UInt8
  | 0, _, _ => []
  | d + 1, e, c => (if pbeg p e = true then (if c = true then [44] else []) ++ dd e else if pend p n e = true then 45 :: dd e else []) ++ refT p n d (e + 1) (c || pbeg p e)
def txtOf (p : Nat → Bool) (n : Nat) : List UInt8 := dd n ++ 58 :: refT p n n 0 false
theorem dd_small {u : Nat} (h : u < 10) : dd u = [UInt8.ofNat (48 + u)] := by unfold dd; rw [Lib.decDigits, dif_pos h]
theorem dd_big {u : Nat} (h : ¬ u < 10) : dd u = dd (u / 10) ++ [UInt8.ofNat (48 + u % 10)] := by unfold dd; rw [Lib.decDigits, dif_neg h]
theorem dd_len : ∀ (k u : Nat), u < 10 ^ (k + 1) → (dd u).length ≤ k + 1
  | 0, u, h => by rw [dd_small (by omega)]; simp
  | k + 1, u, h => by
    by_cases h1 : u < 10
    · rw [dd_small h1]; simp
    · rw [dd_big h1, List.length_append]
      have := dd_len k (u / 10) (by rw [Nat.pow_succ] at h; omega)
      simp
      omega
theorem dd_le {u : Nat} (h : u ≤ 4096) : (dd u).length ≤ 4 := dd_len 3 u (by omega)
theorem refT_len (p : Nat → Bool) (n : Nat) : ∀ d e c, e + d ≤ 4096 → (refT p n d e c).length ≤ 6 * d
  | 0, _, _, _ => by simp [refT]
  | d + 1, e, c, h => by
    have h1 := refT_len p n d (e + 1) (c || pbeg p e) (by omega)
    have h2 := dd_le (u := e) (by omega)
    rw [refT, List.length_append]
    by_cases hb1 : pbeg p e = true
    · rw [if_pos hb1, List.length_append]
      have : (if c = true then [(44 : UInt8)] else []).length ≤ 1 := by split <;> simp
      omega
    · rw [if_neg hb1]
      have : (if pend p n e = true then 45 :: dd e else []).length ≤ 5 := by split <;> simp; omega
      omega
theorem refT_skip (p : Nat → Bool) (n : Nat) (c : Bool) {f : Nat} (hf : f ≤ n) : ∀ (d pos : Nat), pos + d = f → (∀ e, pos ≤ e → e < f → p e = false) → refT p n (n - pos) pos c = refT p n (n - f) f c
  | 0, pos, h, _ => by obtain rfl : pos = f := by omega
                       rfl
  | d + 1, pos, h, hp => by
    have hpos := hp pos (Nat.le_refl _) (by omega)
    rw [show n - pos = (n - (pos + 1)) + 1 by omega, refT]
    have h1 : pbeg p pos = false := by simp [pbeg, hpos]
    have h2 : pend p n pos = false := by simp [pend, hpos]
    rw [h1, h2, if_neg (by decide), if_neg (by decide), List.nil_append, Bool.or_false]
    exact refT_skip p n c hf d (pos + 1) (by omega) (fun e he1 he2 => hp e (by omega) he2)
theorem refT_in (p : Nat → Bool) (n : Nat) {f t : Nat} (ht : t < n) (hp : ∀ e, f ≤ e → e ≤ t → p e = true) (hend : t + 1 = n ∨ p (t + 1) = false) : ∀ (d e : Nat), e + d = t → f < e → refT p n (n - e) e true = 45 :: dd t ++ refT p n (n - (t + 1)) (t + 1) true
  | 0, e, h, hfe => by
    obtain rfl : e = t := by omega
    rw [show n - e = (n - (e + 1)) + 1 by omega, refT]
    have h1 : pbeg p e = false := by simp [pbeg, hp (e - 1) (by omega) (by omega)]; omega
    have h2 : pend p n e = true := by
      unfold pend
      rw [hp e (by omega) (Nat.le_refl _), Bool.true_and]
      rcases hend with h | h
      · simp [h]
      · simp [h]
    rw [h1, h2, if_neg (by decide), if_pos rfl, Bool.or_false]
  | d + 1, e, h, hfe => by
    rw [show n - e = (n - (e + 1)) + 1 by omega, refT]
    have h1 : pbeg p e = false := by simp [pbeg, hp (e - 1) (by omega) (by omega)]; omega
    have h2 : pend p n e = false := by
      have : e + 1 ≠ n := by omega
      simp [pend, hp (e + 1) (by omega) (by omega), this]
    rw [h1, h2, if_neg (by decide), if_neg (by decide), List.nil_append, Bool.or_false]
    exact refT_in p n ht hp hend d (e + 1) (by omega) (by omega)
theorem refT_run (p : Nat → Bool) (n : Nat) (c : Bool) {f t : Nat} (hft : f ≤ t) (ht : t < n) (hp : ∀ e, f ≤ e → e ≤ t → p e = true) (hend : t + 1 = n ∨ p (t + 1) = false) (hbeg : f = 0 ∨ p (f - 1) = false) :
    refT p n (n - f) f c = (if c = true then [44] else []) ++ dd f ++ (if f < t then 45 :: dd t else []) ++ refT p n (n - (t + 1)) (t + 1) true := by
  have h1 : pbeg p f = true := by
    unfold pbeg
    rw [hp f (Nat.le_refl _) hft, Bool.true_and]
    rcases hbeg with h | h
    · simp [h]
    · simp [h]
  rw [show n - f = (n - (f + 1)) + 1 by omega, refT, h1, if_pos rfl, Bool.or_true]
  by_cases hlt : f < t
  · rw [if_pos hlt, refT_in p n ht hp hend (t - (f + 1)) (f + 1) (by omega) (by omega)]
    simp
  · obtain rfl : f = t := by omega
    rw [if_neg hlt, List.append_nil]
theorem next_ev {n : Nat} (hn : n ≤ 4096) {p : Nat → Bool} {ws : List Int} (h : Is n p ws) {pos : Nat} (hpos : pos ≤ n) : ∃ r : Int, Ev (fun k => bitset_Next.f k (n : Int) ws (pos : Int)) r ∧ ((r = -1 ∧ ∀ e, pos ≤ e → e < n → p e = false) ∨ ∃ f : Nat, r = (f : Int) ∧ pos ≤ f ∧ f < n ∧ p f = true ∧ ∀ e, pos ≤ e → e < f → p e = false) := by
  have hm : MayP (n : Int) ws := h.may hn
  obtain ⟨K1, h1⟩ := Rank_eq h.wds hm (pos : Int)
  have hcl : cl n (pos : Int) = pos := by unfold cl; omega
  have hrk := rk_le ws pos
  obtain ⟨r, hs, K2, h2⟩ := Select_eq h.wds hm (rk ws pos : Int) (by omega)
  have hin : ∀ e, e < n → p e = true → hb ws e = true := fun e he hp => by rw [h.has e, hp]; simp [he]
  have hout : ∀ e, hb ws e = true → e < n ∧ p e = true := fun e he => by rw [h.has e] at he; simpa using he
  have lt : ∀ e : Nat, hb ws e = true → rk ws e < cnt ws := fun e he => by rw [rk_all hm]; exact rk_lt ws (hout e he).1 he
  refine ⟨r, ⟨K1 + K2, fun k hk => ?_⟩, ?_⟩
  · have y1 := h1 k (by omega)
    have y2 := h2 k (by omega)
    dsimp only at y1 y2
    rw [hcl] at y1
    show bitset_Next.f k (n : Int) ws (pos : Int) = _
    unfold bitset_Next.f
    rw [y1, Option.bind_some, y2, Option.bind_some]
  · rcases hs with ⟨h3, h4⟩ | ⟨e, h3, h4, h5⟩
    · refine .inl ⟨h4, fun e he hen => ?_⟩
      cases hp : p e with
      | false => rfl
      | true =>
        have := lt e (hin e hen hp)
        have := rk_mono ws he
        omega
    · refine .inr ⟨e, h5, ?_, (hout e h3).1, (hout e h3).2, fun d hd hde => ?_⟩
      · refine Nat.le_of_not_lt fun hlt => ?_
        have := rk_lt ws hlt h3
        omega
      · cases hp : p d with
        | false => rfl
        | true =>
          have := rk_lt ws hde (hin d (by have := (hout e h3).1; omega) hp)
          have := rk_mono ws hd
          omega
end Go.Proofs.YtjmkhdhffmlhiaaDoor.PAll
end
